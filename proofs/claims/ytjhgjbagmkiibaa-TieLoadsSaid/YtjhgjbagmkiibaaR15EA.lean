/-
  Ties: what a pid may be, how two stand; New, Link, Unlink. (Printed by sx/r15t.py.)
-/
import Derived.Test.YtjhgjbagmkiibaaR15TA
section
namespace Go.Proofs.Ytjhgjbagmkiibaa.E
open Go.Lg
set_option linter.unusedVariables false
set_option maxRecDepth 100000
set_option maxHeartbeats 8000000
set_option linter.unusedSimpArgs false
def mayP (a : PD.T) : Bool := decide (ILe 0 a.1 ∧ ILt a.1 256 ∧ ILe 1 a.2.1 ∧ ILe a.2.1 4611686018427387903)
theorem may_is {a : PD.T} (h : mayP a = true) : ILe 0 a.1 ∧ ILt a.1 256 ∧ ILe 1 a.2.1 ∧ ILe a.2.1 4611686018427387903 := of_decide_eq_true h
def ordP (a b : PD.T) : Int := cmpP (a.1, a.2.1) (b.1, b.2.1)
def pairOf (a b : PD.T) : PR.T := if 0 < ordP a b then (b, (a, ())) else (a, (b, ()))
theorem may_ok (a : PD.T)  : PureC pg an 32 [.agg [vi a.1, vi a.2.1]] [.one (vb (mayP a))] := by
 refine Runs.of (fn := Try.f32) Try.func32 rfl (by kernel_rfl) [(0, .y (.agg [vi a.1, vi a.2.1]))] (by kernel_rfl) ?_
 obtain ⟨n1, hn1⟩ : ∃ n, n = List.length ([] : Go.Lg.Heap) := ⟨_, rfl⟩
 refine Wp.regionSeq [(0, .y (.one (.ptr n1 0)), ([] ++ [.obj [vi a.1, vi a.2.1]]))] [(1, .y (.one (.ptr n1 0)))] ([] ++ [.obj [vi a.1, vi a.2.1]])
   (cast (And.intro (ob_box (P := pg) (A := an) (H := []) (t := 24) (ty := 0) (n := n1) (v := .agg [vi a.1, vi a.2.1]) (cs := [vi a.1, vi a.2.1]) hn1 (by kernel_rfl) (by kernel_rfl) (by kernel_rfl)) trivial) (by kernel_rfl)) (by kernel_rfl) ?_
 refine Wp.gen (cs := [pts n1 (.obj [vi a.1, vi a.2.1])]) (On.new' hn1 (.obj [vi a.1, vi a.2.1]) (On.nil [])) ?_
 intro H2 hs3
 rcases ile (0) (a.1) with c4 | c4
 ·
  rcases ilt (a.1) (256) with c5 | c5
  ·
   rcases ile (1) (a.2.1) with c6 | c6
   ·
    rcases ile (a.2.1) (4611686018427387903) with c7 | c7
    ·
     refine Wp.regionSeq [(1, xi a.1, H2), (2, xb true, H2), (5, xi a.1, H2), (6, xb true, H2), (10, xi a.2.1, H2), (11, xb true, H2), (15, xi a.2.1, H2), (16, xb true, H2)] [(2, xb true)] H2
       (cast (And.intro (ob_load_ptr (P := pg) (A := an) (H := H2) (t := 3) (ty := 0) (id := n1) (off := 0) (n := 1) (cs := [vi a.1, vi a.2.1]) (cs' := [vi a.1]) (v := .one (vi a.1)) (On.at hs3 0 rfl) (by kernel_rfl) (by kernel_rfl) (by kernel_rfl) (by kernel_rfl)) (And.intro (ob_raw (P := pg) (A := an) (vals := [xi a.1, xi 0]) (H := H2) (op := .binOp .geq 3 (.tmp 0) (.tmp 1) 3) (ty := 0) (r := xb (decide (ILe (0) (a.1)))) (v := xb true) (by kernel_rfl) (congrArg (fun z => xb z) (decide_eq_true (by omega)))) (And.intro (ob_load_ptr (P := pg) (A := an) (H := H2) (t := 3) (ty := 0) (id := n1) (off := 0) (n := 1) (cs := [vi a.1, vi a.2.1]) (cs' := [vi a.1]) (v := .one (vi a.1)) (On.at hs3 0 rfl) (by kernel_rfl) (by kernel_rfl) (by kernel_rfl) (by kernel_rfl)) (And.intro (ob_raw (P := pg) (A := an) (vals := [xi a.1, xi 256]) (H := H2) (op := .binOp .lss 3 (.tmp 0) (.tmp 1) 3) (ty := 0) (r := xb (decide (ILt (a.1) (256)))) (v := xb true) (by kernel_rfl) (congrArg (fun z => xb z) (decide_eq_true (by omega)))) (And.intro (ob_load_ptr (P := pg) (A := an) (H := H2) (t := 3) (ty := 0) (id := n1) (off := 1) (n := 1) (cs := [vi a.1, vi a.2.1]) (cs' := [vi a.2.1]) (v := .one (vi a.2.1)) (On.at hs3 0 rfl) (by kernel_rfl) (by kernel_rfl) (by kernel_rfl) (by kernel_rfl)) (And.intro (ob_raw (P := pg) (A := an) (vals := [xi a.2.1, xi 1]) (H := H2) (op := .binOp .geq 3 (.tmp 0) (.tmp 1) 3) (ty := 0) (r := xb (decide (ILe (1) (a.2.1)))) (v := xb true) (by kernel_rfl) (congrArg (fun z => xb z) (decide_eq_true (by omega)))) (And.intro (ob_load_ptr (P := pg) (A := an) (H := H2) (t := 3) (ty := 0) (id := n1) (off := 1) (n := 1) (cs := [vi a.1, vi a.2.1]) (cs' := [vi a.2.1]) (v := .one (vi a.2.1)) (On.at hs3 0 rfl) (by kernel_rfl) (by kernel_rfl) (by kernel_rfl) (by kernel_rfl)) (And.intro (ob_raw (P := pg) (A := an) (vals := [xi a.2.1, xi 4611686018427387903]) (H := H2) (op := .binOp .leq 3 (.tmp 0) (.tmp 1) 3) (ty := 0) (r := xb (decide (ILe (a.2.1) (4611686018427387903)))) (v := xb true) (by kernel_rfl) (congrArg (fun z => xb z) (decide_eq_true (by omega)))) trivial)))))))) (by kernel_rfl)) (by kernel_rfl) ?_
     refine Wp.ret ?_
     refine ⟨Or.inr rfl, [.one (vb true)], (by kernel_rfl), ?_⟩
     exact congrArg (fun z => some [Y.one (vb z)]) (show true = mayP a by unfold mayP; exact (decide_eq_true ⟨by omega, by omega, by omega, by omega⟩).symm)
    ·
     refine Wp.regionSeq [(1, xi a.1, H2), (2, xb true, H2), (5, xi a.1, H2), (6, xb true, H2), (10, xi a.2.1, H2), (11, xb true, H2), (15, xi a.2.1, H2), (16, xb false, H2)] [(2, xb false)] H2
       (cast (And.intro (ob_load_ptr (P := pg) (A := an) (H := H2) (t := 3) (ty := 0) (id := n1) (off := 0) (n := 1) (cs := [vi a.1, vi a.2.1]) (cs' := [vi a.1]) (v := .one (vi a.1)) (On.at hs3 0 rfl) (by kernel_rfl) (by kernel_rfl) (by kernel_rfl) (by kernel_rfl)) (And.intro (ob_raw (P := pg) (A := an) (vals := [xi a.1, xi 0]) (H := H2) (op := .binOp .geq 3 (.tmp 0) (.tmp 1) 3) (ty := 0) (r := xb (decide (ILe (0) (a.1)))) (v := xb true) (by kernel_rfl) (congrArg (fun z => xb z) (decide_eq_true (by omega)))) (And.intro (ob_load_ptr (P := pg) (A := an) (H := H2) (t := 3) (ty := 0) (id := n1) (off := 0) (n := 1) (cs := [vi a.1, vi a.2.1]) (cs' := [vi a.1]) (v := .one (vi a.1)) (On.at hs3 0 rfl) (by kernel_rfl) (by kernel_rfl) (by kernel_rfl) (by kernel_rfl)) (And.intro (ob_raw (P := pg) (A := an) (vals := [xi a.1, xi 256]) (H := H2) (op := .binOp .lss 3 (.tmp 0) (.tmp 1) 3) (ty := 0) (r := xb (decide (ILt (a.1) (256)))) (v := xb true) (by kernel_rfl) (congrArg (fun z => xb z) (decide_eq_true (by omega)))) (And.intro (ob_load_ptr (P := pg) (A := an) (H := H2) (t := 3) (ty := 0) (id := n1) (off := 1) (n := 1) (cs := [vi a.1, vi a.2.1]) (cs' := [vi a.2.1]) (v := .one (vi a.2.1)) (On.at hs3 0 rfl) (by kernel_rfl) (by kernel_rfl) (by kernel_rfl) (by kernel_rfl)) (And.intro (ob_raw (P := pg) (A := an) (vals := [xi a.2.1, xi 1]) (H := H2) (op := .binOp .geq 3 (.tmp 0) (.tmp 1) 3) (ty := 0) (r := xb (decide (ILe (1) (a.2.1)))) (v := xb true) (by kernel_rfl) (congrArg (fun z => xb z) (decide_eq_true (by omega)))) (And.intro (ob_load_ptr (P := pg) (A := an) (H := H2) (t := 3) (ty := 0) (id := n1) (off := 1) (n := 1) (cs := [vi a.1, vi a.2.1]) (cs' := [vi a.2.1]) (v := .one (vi a.2.1)) (On.at hs3 0 rfl) (by kernel_rfl) (by kernel_rfl) (by kernel_rfl) (by kernel_rfl)) (And.intro (ob_raw (P := pg) (A := an) (vals := [xi a.2.1, xi 4611686018427387903]) (H := H2) (op := .binOp .leq 3 (.tmp 0) (.tmp 1) 3) (ty := 0) (r := xb (decide (ILe (a.2.1) (4611686018427387903)))) (v := xb false) (by kernel_rfl) (congrArg (fun z => xb z) (decide_eq_false (by omega)))) trivial)))))))) (by kernel_rfl)) (by kernel_rfl) ?_
     refine Wp.ret ?_
     refine ⟨Or.inr rfl, [.one (vb false)], (by kernel_rfl), ?_⟩
     exact congrArg (fun z => some [Y.one (vb z)]) (show false = mayP a by unfold mayP; exact (decide_eq_false (by rintro ⟨g1, g2, g3, g4⟩; omega)).symm)
   ·
    refine Wp.regionSeq [(1, xi a.1, H2), (2, xb true, H2), (5, xi a.1, H2), (6, xb true, H2), (10, xi a.2.1, H2), (11, xb false, H2)] [(2, xb false)] H2
      (cast (And.intro (ob_load_ptr (P := pg) (A := an) (H := H2) (t := 3) (ty := 0) (id := n1) (off := 0) (n := 1) (cs := [vi a.1, vi a.2.1]) (cs' := [vi a.1]) (v := .one (vi a.1)) (On.at hs3 0 rfl) (by kernel_rfl) (by kernel_rfl) (by kernel_rfl) (by kernel_rfl)) (And.intro (ob_raw (P := pg) (A := an) (vals := [xi a.1, xi 0]) (H := H2) (op := .binOp .geq 3 (.tmp 0) (.tmp 1) 3) (ty := 0) (r := xb (decide (ILe (0) (a.1)))) (v := xb true) (by kernel_rfl) (congrArg (fun z => xb z) (decide_eq_true (by omega)))) (And.intro (ob_load_ptr (P := pg) (A := an) (H := H2) (t := 3) (ty := 0) (id := n1) (off := 0) (n := 1) (cs := [vi a.1, vi a.2.1]) (cs' := [vi a.1]) (v := .one (vi a.1)) (On.at hs3 0 rfl) (by kernel_rfl) (by kernel_rfl) (by kernel_rfl) (by kernel_rfl)) (And.intro (ob_raw (P := pg) (A := an) (vals := [xi a.1, xi 256]) (H := H2) (op := .binOp .lss 3 (.tmp 0) (.tmp 1) 3) (ty := 0) (r := xb (decide (ILt (a.1) (256)))) (v := xb true) (by kernel_rfl) (congrArg (fun z => xb z) (decide_eq_true (by omega)))) (And.intro (ob_load_ptr (P := pg) (A := an) (H := H2) (t := 3) (ty := 0) (id := n1) (off := 1) (n := 1) (cs := [vi a.1, vi a.2.1]) (cs' := [vi a.2.1]) (v := .one (vi a.2.1)) (On.at hs3 0 rfl) (by kernel_rfl) (by kernel_rfl) (by kernel_rfl) (by kernel_rfl)) (And.intro (ob_raw (P := pg) (A := an) (vals := [xi a.2.1, xi 1]) (H := H2) (op := .binOp .geq 3 (.tmp 0) (.tmp 1) 3) (ty := 0) (r := xb (decide (ILe (1) (a.2.1)))) (v := xb false) (by kernel_rfl) (congrArg (fun z => xb z) (decide_eq_false (by omega)))) trivial)))))) (by kernel_rfl)) (by kernel_rfl) ?_
    refine Wp.ret ?_
    refine ⟨Or.inr rfl, [.one (vb false)], (by kernel_rfl), ?_⟩
    exact congrArg (fun z => some [Y.one (vb z)]) (show false = mayP a by unfold mayP; exact (decide_eq_false (by rintro ⟨g1, g2, g3, g4⟩; omega)).symm)
  ·
   refine Wp.regionSeq [(1, xi a.1, H2), (2, xb true, H2), (5, xi a.1, H2), (6, xb false, H2)] [(2, xb false)] H2
     (cast (And.intro (ob_load_ptr (P := pg) (A := an) (H := H2) (t := 3) (ty := 0) (id := n1) (off := 0) (n := 1) (cs := [vi a.1, vi a.2.1]) (cs' := [vi a.1]) (v := .one (vi a.1)) (On.at hs3 0 rfl) (by kernel_rfl) (by kernel_rfl) (by kernel_rfl) (by kernel_rfl)) (And.intro (ob_raw (P := pg) (A := an) (vals := [xi a.1, xi 0]) (H := H2) (op := .binOp .geq 3 (.tmp 0) (.tmp 1) 3) (ty := 0) (r := xb (decide (ILe (0) (a.1)))) (v := xb true) (by kernel_rfl) (congrArg (fun z => xb z) (decide_eq_true (by omega)))) (And.intro (ob_load_ptr (P := pg) (A := an) (H := H2) (t := 3) (ty := 0) (id := n1) (off := 0) (n := 1) (cs := [vi a.1, vi a.2.1]) (cs' := [vi a.1]) (v := .one (vi a.1)) (On.at hs3 0 rfl) (by kernel_rfl) (by kernel_rfl) (by kernel_rfl) (by kernel_rfl)) (And.intro (ob_raw (P := pg) (A := an) (vals := [xi a.1, xi 256]) (H := H2) (op := .binOp .lss 3 (.tmp 0) (.tmp 1) 3) (ty := 0) (r := xb (decide (ILt (a.1) (256)))) (v := xb false) (by kernel_rfl) (congrArg (fun z => xb z) (decide_eq_false (by omega)))) trivial)))) (by kernel_rfl)) (by kernel_rfl) ?_
   refine Wp.ret ?_
   refine ⟨Or.inr rfl, [.one (vb false)], (by kernel_rfl), ?_⟩
   exact congrArg (fun z => some [Y.one (vb z)]) (show false = mayP a by unfold mayP; exact (decide_eq_false (by rintro ⟨g1, g2, g3, g4⟩; omega)).symm)
 ·
  refine Wp.regionSeq [(1, xi a.1, H2), (2, xb false, H2)] [(2, xb false)] H2
    (cast (And.intro (ob_load_ptr (P := pg) (A := an) (H := H2) (t := 3) (ty := 0) (id := n1) (off := 0) (n := 1) (cs := [vi a.1, vi a.2.1]) (cs' := [vi a.1]) (v := .one (vi a.1)) (On.at hs3 0 rfl) (by kernel_rfl) (by kernel_rfl) (by kernel_rfl) (by kernel_rfl)) (And.intro (ob_raw (P := pg) (A := an) (vals := [xi a.1, xi 0]) (H := H2) (op := .binOp .geq 3 (.tmp 0) (.tmp 1) 3) (ty := 0) (r := xb (decide (ILe (0) (a.1)))) (v := xb false) (by kernel_rfl) (congrArg (fun z => xb z) (decide_eq_false (by omega)))) trivial)) (by kernel_rfl)) (by kernel_rfl) ?_
  refine Wp.ret ?_
  refine ⟨Or.inr rfl, [.one (vb false)], (by kernel_rfl), ?_⟩
  exact congrArg (fun z => some [Y.one (vb z)]) (show false = mayP a by unfold mayP; exact (decide_eq_false (by rintro ⟨g1, g2, g3, g4⟩; omega)).symm)
theorem order_ok (a b : PD.T) (ha0 : ILe 0 a.1) (ha1 : ILt a.1 256) (hb0 : ILe 0 b.1) (hb1 : ILt b.1 256)  : PureC pg an 31 [.agg [vi a.1, vi a.2.1], .agg [vi b.1, vi b.2.1]] [.one (vi (ordP a b))] := by
 refine Runs.of (fn := Try.f31) Try.func31 rfl (by kernel_rfl) [(0, .y (.agg [vi a.1, vi a.2.1])), (1, .y (.agg [vi b.1, vi b.2.1]))] (by kernel_rfl) ?_
 obtain ⟨n1, hn1⟩ : ∃ n, n = List.length ([] : Go.Lg.Heap) := ⟨_, rfl⟩
 obtain ⟨n2, hn2⟩ : ∃ n, n = List.length (([] ++ [.obj [vi a.1, vi a.2.1]]) : Go.Lg.Heap) := ⟨_, rfl⟩
 refine Wp.regionSeq [(0, .y (.one (.ptr n1 0)), ([] ++ [.obj [vi a.1, vi a.2.1]])), (1, .y (.one (.ptr n2 0)), (([] ++ [.obj [vi a.1, vi a.2.1]]) ++ [.obj [vi b.1, vi b.2.1]]))] [(2, .y (.one (.ptr n1 0))), (3, .y (.one (.ptr n2 0)))] (([] ++ [.obj [vi a.1, vi a.2.1]]) ++ [.obj [vi b.1, vi b.2.1]])
   (cast (And.intro (ob_box (P := pg) (A := an) (H := []) (t := 24) (ty := 0) (n := n1) (v := .agg [vi a.1, vi a.2.1]) (cs := [vi a.1, vi a.2.1]) hn1 (by kernel_rfl) (by kernel_rfl) (by kernel_rfl)) (And.intro (ob_box (P := pg) (A := an) (H := ([] ++ [.obj [vi a.1, vi a.2.1]])) (t := 24) (ty := 0) (n := n2) (v := .agg [vi b.1, vi b.2.1]) (cs := [vi b.1, vi b.2.1]) hn2 (by kernel_rfl) (by kernel_rfl) (by kernel_rfl)) trivial)) (by kernel_rfl)) (by kernel_rfl) ?_
 refine Wp.gen (cs := [pts n1 (.obj [vi a.1, vi a.2.1]), pts n2 (.obj [vi b.1, vi b.2.1])]) (On.new' hn2 (.obj [vi b.1, vi b.2.1]) (On.new' hn1 (.obj [vi a.1, vi a.2.1]) (On.nil []))) ?_
 intro H3 hs4
 refine Wp.seq ?_
 rcases ieq (a.1) (b.1) with c5 | c5
 ·
  refine Wp.regionSeq [(1, xi a.1, H3), (3, xi b.1, H3), (4, xb false, H3)] [(2, .y (.one (.ptr n1 0))), (3, .y (.one (.ptr n2 0))), (9, xb false)] H3
    (cast (And.intro (ob_load_ptr (P := pg) (A := an) (H := H3) (t := 3) (ty := 0) (id := n1) (off := 0) (n := 1) (cs := [vi a.1, vi a.2.1]) (cs' := [vi a.1]) (v := .one (vi a.1)) (On.at hs4 0 rfl) (by kernel_rfl) (by kernel_rfl) (by kernel_rfl) (by kernel_rfl)) (And.intro (ob_load_ptr (P := pg) (A := an) (H := H3) (t := 3) (ty := 0) (id := n2) (off := 0) (n := 1) (cs := [vi b.1, vi b.2.1]) (cs' := [vi b.1]) (v := .one (vi b.1)) (On.at hs4 1 rfl) (by kernel_rfl) (by kernel_rfl) (by kernel_rfl) (by kernel_rfl)) (And.intro (ob_raw (P := pg) (A := an) (vals := [xi a.1, xi b.1]) (H := H3) (op := .binOp .neq 3 (.tmp 0) (.tmp 1) 3) (ty := 0) (r := xb (bneI (a.1) (b.1))) (v := xb false) (by kernel_rfl) (congrArg (fun z => xb z) (bne_f (by omega)))) trivial))) (by kernel_rfl)) (by kernel_rfl) ?_
  refine Wp.condF (by kernel_rfl) ?_
  refine Wp.skip ?_
  refine Wp.seq ?_
  refine Wp.block ?_
  rcases ilt (a.2.1) (b.2.1) with c6 | c6
  ·
   refine Wp.regionSeq [(1, xi a.2.1, H3), (3, xi b.2.1, H3), (4, xb true, H3)] [(2, .y (.one (.ptr n1 0))), (3, .y (.one (.ptr n2 0))), (15, xb true)] H3
     (cast (And.intro (ob_load_ptr (P := pg) (A := an) (H := H3) (t := 3) (ty := 0) (id := n1) (off := 1) (n := 1) (cs := [vi a.1, vi a.2.1]) (cs' := [vi a.2.1]) (v := .one (vi a.2.1)) (On.at hs4 0 rfl) (by kernel_rfl) (by kernel_rfl) (by kernel_rfl) (by kernel_rfl)) (And.intro (ob_load_ptr (P := pg) (A := an) (H := H3) (t := 3) (ty := 0) (id := n2) (off := 1) (n := 1) (cs := [vi b.1, vi b.2.1]) (cs' := [vi b.2.1]) (v := .one (vi b.2.1)) (On.at hs4 1 rfl) (by kernel_rfl) (by kernel_rfl) (by kernel_rfl) (by kernel_rfl)) (And.intro (ob_raw (P := pg) (A := an) (vals := [xi a.2.1, xi b.2.1]) (H := H3) (op := .binOp .lss 3 (.tmp 0) (.tmp 1) 3) (ty := 0) (r := xb (decide (ILt (a.2.1) (b.2.1)))) (v := xb true) (by kernel_rfl) (congrArg (fun z => xb z) (decide_eq_true (by omega)))) trivial))) (by kernel_rfl)) (by kernel_rfl) ?_
   refine Wp.condT (by kernel_rfl) ?_
   refine Wp.regionSeq [] [(4, xi (-1))] H3
     (cast trivial (by kernel_rfl)) (by kernel_rfl) ?_
   refine Wp.ret ?_
   refine ⟨Or.inr rfl, [.one (vi (-1))], (by kernel_rfl), ?_⟩
   exact congrArg (fun z : Int => some [Y.one (vi z)]) (show (-1) = ordP a b by unfold ordP cmpP; dsimp only; split <;> (first | rfl | omega | (split <;> first | rfl | omega | (split <;> omega)) | (exfalso; omega)))
  ·
   refine Wp.regionSeq [(1, xi a.2.1, H3), (3, xi b.2.1, H3), (4, xb false, H3)] [(2, .y (.one (.ptr n1 0))), (3, .y (.one (.ptr n2 0))), (15, xb false)] H3
     (cast (And.intro (ob_load_ptr (P := pg) (A := an) (H := H3) (t := 3) (ty := 0) (id := n1) (off := 1) (n := 1) (cs := [vi a.1, vi a.2.1]) (cs' := [vi a.2.1]) (v := .one (vi a.2.1)) (On.at hs4 0 rfl) (by kernel_rfl) (by kernel_rfl) (by kernel_rfl) (by kernel_rfl)) (And.intro (ob_load_ptr (P := pg) (A := an) (H := H3) (t := 3) (ty := 0) (id := n2) (off := 1) (n := 1) (cs := [vi b.1, vi b.2.1]) (cs' := [vi b.2.1]) (v := .one (vi b.2.1)) (On.at hs4 1 rfl) (by kernel_rfl) (by kernel_rfl) (by kernel_rfl) (by kernel_rfl)) (And.intro (ob_raw (P := pg) (A := an) (vals := [xi a.2.1, xi b.2.1]) (H := H3) (op := .binOp .lss 3 (.tmp 0) (.tmp 1) 3) (ty := 0) (r := xb (decide (ILt (a.2.1) (b.2.1)))) (v := xb false) (by kernel_rfl) (congrArg (fun z => xb z) (decide_eq_false (by omega)))) trivial))) (by kernel_rfl)) (by kernel_rfl) ?_
   refine Wp.condF (by kernel_rfl) ?_
   rcases ilt (b.2.1) (a.2.1) with c7 | c7
   ·
    refine Wp.regionSeq [(1, xi a.2.1, H3), (3, xi b.2.1, H3), (4, xb true, H3)] [(21, xb true)] H3
      (cast (And.intro (ob_load_ptr (P := pg) (A := an) (H := H3) (t := 3) (ty := 0) (id := n1) (off := 1) (n := 1) (cs := [vi a.1, vi a.2.1]) (cs' := [vi a.2.1]) (v := .one (vi a.2.1)) (On.at hs4 0 rfl) (by kernel_rfl) (by kernel_rfl) (by kernel_rfl) (by kernel_rfl)) (And.intro (ob_load_ptr (P := pg) (A := an) (H := H3) (t := 3) (ty := 0) (id := n2) (off := 1) (n := 1) (cs := [vi b.1, vi b.2.1]) (cs' := [vi b.2.1]) (v := .one (vi b.2.1)) (On.at hs4 1 rfl) (by kernel_rfl) (by kernel_rfl) (by kernel_rfl) (by kernel_rfl)) (And.intro (ob_raw (P := pg) (A := an) (vals := [xi a.2.1, xi b.2.1]) (H := H3) (op := .binOp .gtr 3 (.tmp 0) (.tmp 1) 3) (ty := 0) (r := xb (decide (ILt (b.2.1) (a.2.1)))) (v := xb true) (by kernel_rfl) (congrArg (fun z => xb z) (decide_eq_true (by omega)))) trivial))) (by kernel_rfl)) (by kernel_rfl) ?_
    refine Wp.condT (by kernel_rfl) ?_
    refine Wp.regionSeq [] [(4, xi 1)] H3
      (cast trivial (by kernel_rfl)) (by kernel_rfl) ?_
    refine Wp.ret ?_
    refine ⟨Or.inr rfl, [.one (vi 1)], (by kernel_rfl), ?_⟩
    exact congrArg (fun z : Int => some [Y.one (vi z)]) (show 1 = ordP a b by unfold ordP cmpP; dsimp only; split <;> (first | rfl | omega | (split <;> first | rfl | omega | (split <;> omega)) | (exfalso; omega)))
   ·
    refine Wp.regionSeq [(1, xi a.2.1, H3), (3, xi b.2.1, H3), (4, xb false, H3)] [(21, xb false)] H3
      (cast (And.intro (ob_load_ptr (P := pg) (A := an) (H := H3) (t := 3) (ty := 0) (id := n1) (off := 1) (n := 1) (cs := [vi a.1, vi a.2.1]) (cs' := [vi a.2.1]) (v := .one (vi a.2.1)) (On.at hs4 0 rfl) (by kernel_rfl) (by kernel_rfl) (by kernel_rfl) (by kernel_rfl)) (And.intro (ob_load_ptr (P := pg) (A := an) (H := H3) (t := 3) (ty := 0) (id := n2) (off := 1) (n := 1) (cs := [vi b.1, vi b.2.1]) (cs' := [vi b.2.1]) (v := .one (vi b.2.1)) (On.at hs4 1 rfl) (by kernel_rfl) (by kernel_rfl) (by kernel_rfl) (by kernel_rfl)) (And.intro (ob_raw (P := pg) (A := an) (vals := [xi a.2.1, xi b.2.1]) (H := H3) (op := .binOp .gtr 3 (.tmp 0) (.tmp 1) 3) (ty := 0) (r := xb (decide (ILt (b.2.1) (a.2.1)))) (v := xb false) (by kernel_rfl) (congrArg (fun z => xb z) (decide_eq_false (by omega)))) trivial))) (by kernel_rfl)) (by kernel_rfl) ?_
    refine Wp.condF (by kernel_rfl) ?_
    refine Wp.skip ?_
    refine Wp.regionSeq [] [(4, xi 0)] H3
      (cast trivial (by kernel_rfl)) (by kernel_rfl) ?_
    refine Wp.ret ?_
    refine ⟨Or.inr rfl, [.one (vi 0)], (by kernel_rfl), ?_⟩
    exact congrArg (fun z : Int => some [Y.one (vi z)]) (show 0 = ordP a b by unfold ordP cmpP; dsimp only; split <;> (first | rfl | omega | (split <;> first | rfl | omega | (split <;> omega)) | (exfalso; omega)))
 ·
  refine Wp.regionSeq [(1, xi a.1, H3), (3, xi b.1, H3), (4, xb true, H3)] [(2, .y (.one (.ptr n1 0))), (3, .y (.one (.ptr n2 0))), (9, xb true)] H3
    (cast (And.intro (ob_load_ptr (P := pg) (A := an) (H := H3) (t := 3) (ty := 0) (id := n1) (off := 0) (n := 1) (cs := [vi a.1, vi a.2.1]) (cs' := [vi a.1]) (v := .one (vi a.1)) (On.at hs4 0 rfl) (by kernel_rfl) (by kernel_rfl) (by kernel_rfl) (by kernel_rfl)) (And.intro (ob_load_ptr (P := pg) (A := an) (H := H3) (t := 3) (ty := 0) (id := n2) (off := 0) (n := 1) (cs := [vi b.1, vi b.2.1]) (cs' := [vi b.1]) (v := .one (vi b.1)) (On.at hs4 1 rfl) (by kernel_rfl) (by kernel_rfl) (by kernel_rfl) (by kernel_rfl)) (And.intro (ob_raw (P := pg) (A := an) (vals := [xi a.1, xi b.1]) (H := H3) (op := .binOp .neq 3 (.tmp 0) (.tmp 1) 3) (ty := 0) (r := xb (bneI (a.1) (b.1))) (v := xb true) (by kernel_rfl) (congrArg (fun z => xb z) (bne_t (by omega)))) trivial))) (by kernel_rfl)) (by kernel_rfl) ?_
  refine Wp.condT (by kernel_rfl) ?_
  refine Wp.regionSeq [(1, xi a.1, H3), (3, xi b.1, H3), (4, xi (a.1 - b.1), H3)] [(4, xi (a.1 - b.1))] H3
    (cast (And.intro (ob_load_ptr (P := pg) (A := an) (H := H3) (t := 3) (ty := 0) (id := n1) (off := 0) (n := 1) (cs := [vi a.1, vi a.2.1]) (cs' := [vi a.1]) (v := .one (vi a.1)) (On.at hs4 0 rfl) (by kernel_rfl) (by kernel_rfl) (by kernel_rfl) (by kernel_rfl)) (And.intro (ob_load_ptr (P := pg) (A := an) (H := H3) (t := 3) (ty := 0) (id := n2) (off := 0) (n := 1) (cs := [vi b.1, vi b.2.1]) (cs' := [vi b.1]) (v := .one (vi b.1)) (On.at hs4 1 rfl) (by kernel_rfl) (by kernel_rfl) (by kernel_rfl) (by kernel_rfl)) (And.intro (ob_raw (P := pg) (A := an) (vals := [xi a.1, xi b.1]) (H := H3) (op := .binOp .sub 3 (.tmp 0) (.tmp 1) 3) (ty := 0) (r := xi (IntKind.wrap .i64 (a.1 - b.1))) (v := xi (a.1 - b.1)) (by kernel_rfl) (congrArg (fun z => xi z) ((wrap64 (by omega)).trans (by omega)))) trivial))) (by kernel_rfl)) (by kernel_rfl) ?_
  refine Wp.ret ?_
  refine ⟨Or.inr rfl, [.one (vi (a.1 - b.1))], (by kernel_rfl), ?_⟩
  exact congrArg (fun z : Int => some [Y.one (vi z)]) (show (a.1 - b.1) = ordP a b by unfold ordP cmpP; dsimp only; split <;> (first | rfl | omega | (split <;> first | rfl | omega | (split <;> omega)) | (exfalso; omega)))
theorem paired_ok (a b : PD.T) (ha0 : ILe 0 a.1) (ha1 : ILt a.1 256) (hb0 : ILe 0 b.1) (hb1 : ILt b.1 256)  : PureC pg an 27 [.agg [vi a.1, vi a.2.1], .agg [vi b.1, vi b.2.1]] [.agg (enc PR (pairOf a b))] := by
 refine Runs.of (fn := Try.f27) Try.func27 rfl (by kernel_rfl) [(0, .y (.agg [vi a.1, vi a.2.1])), (1, .y (.agg [vi b.1, vi b.2.1]))] (by kernel_rfl) ?_
 obtain ⟨n1, hn1⟩ : ∃ n, n = List.length ([] : Go.Lg.Heap) := ⟨_, rfl⟩
 obtain ⟨n2, hn2⟩ : ∃ n, n = List.length (([] ++ [.obj [vi a.1, vi a.2.1]]) : Go.Lg.Heap) := ⟨_, rfl⟩
 obtain ⟨n3, hn3⟩ : ∃ n, n = List.length ((([] ++ [.obj [vi a.1, vi a.2.1]]) ++ [.obj [vi b.1, vi b.2.1]]) : Go.Lg.Heap) := ⟨_, rfl⟩
 refine Wp.regionSeq [(0, .y (.one (.ptr n1 0)), ([] ++ [.obj [vi a.1, vi a.2.1]])), (1, .y (.one (.ptr n2 0)), (([] ++ [.obj [vi a.1, vi a.2.1]]) ++ [.obj [vi b.1, vi b.2.1]])), (2, .y (.one (.ptr n3 0)), ((([] ++ [.obj [vi a.1, vi a.2.1]]) ++ [.obj [vi b.1, vi b.2.1]]) ++ [.obj [vi 0, vi 0, vi 0, vi 0]]))] [(2, .y (.one (.ptr n1 0))), (3, .y (.one (.ptr n2 0))), (4, .y (.one (.ptr n3 0)))] ((([] ++ [.obj [vi a.1, vi a.2.1]]) ++ [.obj [vi b.1, vi b.2.1]]) ++ [.obj [vi 0, vi 0, vi 0, vi 0]])
   (cast (And.intro (ob_box (P := pg) (A := an) (H := []) (t := 24) (ty := 0) (n := n1) (v := .agg [vi a.1, vi a.2.1]) (cs := [vi a.1, vi a.2.1]) hn1 (by kernel_rfl) (by kernel_rfl) (by kernel_rfl)) (And.intro (ob_box (P := pg) (A := an) (H := ([] ++ [.obj [vi a.1, vi a.2.1]])) (t := 24) (ty := 0) (n := n2) (v := .agg [vi b.1, vi b.2.1]) (cs := [vi b.1, vi b.2.1]) hn2 (by kernel_rfl) (by kernel_rfl) (by kernel_rfl)) (And.intro (ob_alloc (P := pg) (A := an) (H := (([] ++ [.obj [vi a.1, vi a.2.1]]) ++ [.obj [vi b.1, vi b.2.1]])) (t := 67) (ty := 0) (n := n3) (cs := [vi 0, vi 0, vi 0, vi 0]) hn3 (by kernel_rfl)) trivial))) (by kernel_rfl)) (by kernel_rfl) ?_
 refine Wp.gen (cs := [pts n1 (.obj [vi a.1, vi a.2.1]), pts n2 (.obj [vi b.1, vi b.2.1]), pts n3 (.obj [vi 0, vi 0, vi 0, vi 0])]) (On.new' hn3 (.obj [vi 0, vi 0, vi 0, vi 0]) (On.new' hn2 (.obj [vi b.1, vi b.2.1]) (On.new' hn1 (.obj [vi a.1, vi a.2.1]) (On.nil [])))) ?_
 intro H4 hs5
 refine Wp.seq ?_
 rcases ilt (0) ((ordP a b)) with c6 | c6
 ·
  refine Wp.regionSeq [(0, .y (.agg [vi a.1, vi a.2.1]), H4), (1, .y (.agg [vi b.1, vi b.2.1]), H4), (2, xi (ordP a b), H4), (3, xb true, H4)] [(2, .y (.one (.ptr n1 0))), (3, .y (.one (.ptr n2 0))), (4, .y (.one (.ptr n3 0))), (8, xb true)] H4
    (cast (And.intro (ob_load_ptr (P := pg) (A := an) (H := H4) (t := 24) (ty := 0) (id := n1) (off := 0) (n := 2) (cs := [vi a.1, vi a.2.1]) (cs' := [vi a.1, vi a.2.1]) (v := .agg [vi a.1, vi a.2.1]) (On.at hs5 0 rfl) (by kernel_rfl) (by kernel_rfl) (by kernel_rfl) (by kernel_rfl)) (And.intro (ob_load_ptr (P := pg) (A := an) (H := H4) (t := 24) (ty := 0) (id := n2) (off := 0) (n := 2) (cs := [vi b.1, vi b.2.1]) (cs' := [vi b.1, vi b.2.1]) (v := .agg [vi b.1, vi b.2.1]) (On.at hs5 1 rfl) (by kernel_rfl) (by kernel_rfl) (by kernel_rfl) (by kernel_rfl)) (And.intro (ob_pure (P := pg) (A := an) (H := H4) (g := 31) (vals := [.y (.agg [vi a.1, vi a.2.1]), .y (.agg [vi b.1, vi b.2.1])]) (xs0 := [.agg [vi a.1, vi a.2.1], .agg [vi b.1, vi b.2.1]]) (xs1 := [.agg [vi a.1, vi a.2.1], .agg [vi b.1, vi b.2.1]]) (res := [.one (vi (ordP a b))]) (ats := #[]) (ty := 0) (v := xi (ordP a b)) [.tmp 0, .tmp 1] (by kernel_rfl) (by kernel_rfl) (snap_cons (by kernel_rfl) (snap_cons (by kernel_rfl) (snap_nil))) (order_ok a b (by omega) (by omega) (by omega) (by omega)) (by kernel_rfl)) (And.intro (ob_raw (P := pg) (A := an) (vals := [xi (ordP a b), xi 0]) (H := H4) (op := .binOp .gtr 3 (.tmp 0) (.tmp 1) 3) (ty := 0) (r := xb (decide (ILt (0) ((ordP a b))))) (v := xb true) (by kernel_rfl) (congrArg (fun z => xb z) (decide_eq_true (by omega)))) trivial)))) (by kernel_rfl)) (by kernel_rfl) ?_
  refine Wp.condT (by kernel_rfl) ?_
  refine Wp.regionSeq [(0, .y (.agg [vi b.1, vi b.2.1]), H4), (1, .y (.agg [vi a.1, vi a.2.1]), H4), (3, .tup [], (List.set (α := O) H4 n3 (.obj [vi b.1, vi b.2.1, vi a.1, vi a.2.1])))] [(4, .y (.one (.ptr n3 0)))] (List.set (α := O) H4 n3 (.obj [vi b.1, vi b.2.1, vi a.1, vi a.2.1]))
    (cast (And.intro (ob_load_ptr (P := pg) (A := an) (H := H4) (t := 24) (ty := 0) (id := n2) (off := 0) (n := 2) (cs := [vi b.1, vi b.2.1]) (cs' := [vi b.1, vi b.2.1]) (v := .agg [vi b.1, vi b.2.1]) (On.at hs5 1 rfl) (by kernel_rfl) (by kernel_rfl) (by kernel_rfl) (by kernel_rfl)) (And.intro (ob_load_ptr (P := pg) (A := an) (H := H4) (t := 24) (ty := 0) (id := n1) (off := 0) (n := 2) (cs := [vi a.1, vi a.2.1]) (cs' := [vi a.1, vi a.2.1]) (v := .agg [vi a.1, vi a.2.1]) (On.at hs5 0 rfl) (by kernel_rfl) (by kernel_rfl) (by kernel_rfl) (by kernel_rfl)) (And.intro (ob_store_ptr (P := pg) (A := an) (H := H4) (t := 67) (ty := 0) (id := n3) (off := 0) (cs := [vi 0, vi 0, vi 0, vi 0]) (cs' := [vi b.1, vi b.2.1, vi a.1, vi a.2.1]) (v := .agg [vi b.1, vi b.2.1, vi a.1, vi a.2.1]) (On.at hs5 2 rfl) (by kernel_rfl) (by kernel_rfl) (by kernel_rfl)) trivial))) (by kernel_rfl)) (by kernel_rfl) ?_
  refine Wp.gen (cs := [pts n1 (.obj [vi a.1, vi a.2.1]), pts n2 (.obj [vi b.1, vi b.2.1]), pts n3 (.obj [vi b.1, vi b.2.1, vi a.1, vi a.2.1])]) (On.put (.obj [vi b.1, vi b.2.1, vi a.1, vi a.2.1]) hs5 2 rfl) ?_
  intro H7 hs8
  refine Wp.ret ?_
  refine ⟨Or.inr rfl, [.agg [vi b.1, vi b.2.1, vi a.1, vi a.2.1]], (cast (res_cons (P := pg) (e := [(4, .y (.one (.ptr n3 0)))]) (H := H7) (res_cell (P := pg) (e := [(4, .y (.one (.ptr n3 0)))]) (H := H7) (a := 4) (t := 67) (id := n3) (off := 0) (n := 4) (cs := [vi b.1, vi b.2.1, vi a.1, vi a.2.1]) (cs' := [vi b.1, vi b.2.1, vi a.1, vi a.2.1]) (v := .agg [vi b.1, vi b.2.1, vi a.1, vi a.2.1]) (by kernel_rfl) (by kernel_rfl) (On.at hs8 2 rfl) (by kernel_rfl) (by kernel_rfl) (by kernel_rfl)) res_nil) (by kernel_rfl)), ?_⟩
  exact congrArg (fun z : PR.T => some [Y.agg (enc PR z)]) (show ((b, (a, ())) : PR.T) = pairOf a b by unfold pairOf; rw [if_pos (by omega)])
 ·
  refine Wp.regionSeq [(0, .y (.agg [vi a.1, vi a.2.1]), H4), (1, .y (.agg [vi b.1, vi b.2.1]), H4), (2, xi (ordP a b), H4), (3, xb false, H4)] [(2, .y (.one (.ptr n1 0))), (3, .y (.one (.ptr n2 0))), (4, .y (.one (.ptr n3 0))), (8, xb false)] H4
    (cast (And.intro (ob_load_ptr (P := pg) (A := an) (H := H4) (t := 24) (ty := 0) (id := n1) (off := 0) (n := 2) (cs := [vi a.1, vi a.2.1]) (cs' := [vi a.1, vi a.2.1]) (v := .agg [vi a.1, vi a.2.1]) (On.at hs5 0 rfl) (by kernel_rfl) (by kernel_rfl) (by kernel_rfl) (by kernel_rfl)) (And.intro (ob_load_ptr (P := pg) (A := an) (H := H4) (t := 24) (ty := 0) (id := n2) (off := 0) (n := 2) (cs := [vi b.1, vi b.2.1]) (cs' := [vi b.1, vi b.2.1]) (v := .agg [vi b.1, vi b.2.1]) (On.at hs5 1 rfl) (by kernel_rfl) (by kernel_rfl) (by kernel_rfl) (by kernel_rfl)) (And.intro (ob_pure (P := pg) (A := an) (H := H4) (g := 31) (vals := [.y (.agg [vi a.1, vi a.2.1]), .y (.agg [vi b.1, vi b.2.1])]) (xs0 := [.agg [vi a.1, vi a.2.1], .agg [vi b.1, vi b.2.1]]) (xs1 := [.agg [vi a.1, vi a.2.1], .agg [vi b.1, vi b.2.1]]) (res := [.one (vi (ordP a b))]) (ats := #[]) (ty := 0) (v := xi (ordP a b)) [.tmp 0, .tmp 1] (by kernel_rfl) (by kernel_rfl) (snap_cons (by kernel_rfl) (snap_cons (by kernel_rfl) (snap_nil))) (order_ok a b (by omega) (by omega) (by omega) (by omega)) (by kernel_rfl)) (And.intro (ob_raw (P := pg) (A := an) (vals := [xi (ordP a b), xi 0]) (H := H4) (op := .binOp .gtr 3 (.tmp 0) (.tmp 1) 3) (ty := 0) (r := xb (decide (ILt (0) ((ordP a b))))) (v := xb false) (by kernel_rfl) (congrArg (fun z => xb z) (decide_eq_false (by omega)))) trivial)))) (by kernel_rfl)) (by kernel_rfl) ?_
  refine Wp.condF (by kernel_rfl) ?_
  refine Wp.skip ?_
  refine Wp.regionSeq [(0, .y (.agg [vi a.1, vi a.2.1]), H4), (1, .y (.agg [vi b.1, vi b.2.1]), H4), (3, .tup [], (List.set (α := O) H4 n3 (.obj [vi a.1, vi a.2.1, vi b.1, vi b.2.1])))] [(4, .y (.one (.ptr n3 0)))] (List.set (α := O) H4 n3 (.obj [vi a.1, vi a.2.1, vi b.1, vi b.2.1]))
    (cast (And.intro (ob_load_ptr (P := pg) (A := an) (H := H4) (t := 24) (ty := 0) (id := n1) (off := 0) (n := 2) (cs := [vi a.1, vi a.2.1]) (cs' := [vi a.1, vi a.2.1]) (v := .agg [vi a.1, vi a.2.1]) (On.at hs5 0 rfl) (by kernel_rfl) (by kernel_rfl) (by kernel_rfl) (by kernel_rfl)) (And.intro (ob_load_ptr (P := pg) (A := an) (H := H4) (t := 24) (ty := 0) (id := n2) (off := 0) (n := 2) (cs := [vi b.1, vi b.2.1]) (cs' := [vi b.1, vi b.2.1]) (v := .agg [vi b.1, vi b.2.1]) (On.at hs5 1 rfl) (by kernel_rfl) (by kernel_rfl) (by kernel_rfl) (by kernel_rfl)) (And.intro (ob_store_ptr (P := pg) (A := an) (H := H4) (t := 67) (ty := 0) (id := n3) (off := 0) (cs := [vi 0, vi 0, vi 0, vi 0]) (cs' := [vi a.1, vi a.2.1, vi b.1, vi b.2.1]) (v := .agg [vi a.1, vi a.2.1, vi b.1, vi b.2.1]) (On.at hs5 2 rfl) (by kernel_rfl) (by kernel_rfl) (by kernel_rfl)) trivial))) (by kernel_rfl)) (by kernel_rfl) ?_
  refine Wp.gen (cs := [pts n1 (.obj [vi a.1, vi a.2.1]), pts n2 (.obj [vi b.1, vi b.2.1]), pts n3 (.obj [vi a.1, vi a.2.1, vi b.1, vi b.2.1])]) (On.put (.obj [vi a.1, vi a.2.1, vi b.1, vi b.2.1]) hs5 2 rfl) ?_
  intro H9 hs10
  refine Wp.ret ?_
  refine ⟨Or.inr rfl, [.agg [vi a.1, vi a.2.1, vi b.1, vi b.2.1]], (cast (res_cons (P := pg) (e := [(4, .y (.one (.ptr n3 0)))]) (H := H9) (res_cell (P := pg) (e := [(4, .y (.one (.ptr n3 0)))]) (H := H9) (a := 4) (t := 67) (id := n3) (off := 0) (n := 4) (cs := [vi a.1, vi a.2.1, vi b.1, vi b.2.1]) (cs' := [vi a.1, vi a.2.1, vi b.1, vi b.2.1]) (v := .agg [vi a.1, vi a.2.1, vi b.1, vi b.2.1]) (by kernel_rfl) (by kernel_rfl) (On.at hs10 2 rfl) (by kernel_rfl) (by kernel_rfl) (by kernel_rfl)) res_nil) (by kernel_rfl)), ?_⟩
  exact congrArg (fun z : PR.T => some [Y.agg (enc PR z)]) (show ((a, (b, ())) : PR.T) = pairOf a b by unfold pairOf; rw [if_neg (by omega)])
theorem paired_q (a b : PD.T) (q : PR.T) (hq : q = pairOf a b) (ha0 : ILe 0 a.1) (ha1 : ILt a.1 256) (hb0 : ILe 0 b.1) (hb1 : ILt b.1 256) : PureC pg an 27 [.agg [vi a.1, vi a.2.1], .agg [vi b.1, vi b.2.1]] [.agg [vi q.1.1, vi q.1.2.1, vi q.2.1.1, vi q.2.1.2.1]] := by
  have h := paired_ok a b ha0 ha1 hb0 hb1
  rw [← hq] at h
  exact h
end Go.Proofs.Ytjhgjbagmkiibaa.E
end
section
namespace Go.Proofs.Ytjhgjbagmkiibaa.E
open Go.Lg
set_option linter.unusedVariables false
set_option maxRecDepth 100000
set_option maxHeartbeats 8000000
set_option linter.unusedSimpArgs false
def badP (a b : PD.T) : Bool := !(mayP a && (mayP b && !(eqb PD a b)))
theorem bad_is {a b : PD.T} (h : badP a b = false) : mayP a = true ∧ mayP b = true ∧ eqb PD a b = false := by
  unfold badP at h
  simp only [Bool.not_eq_false', Bool.and_eq_true, Bool.not_eq_true'] at h
  exact ⟨h.1, h.2.1, h.2.2⟩
def linkE (L : List PR.T) (M : List TI.T) (a b : PD.T) : Int := if badP a b = true then 1 else if memB PR (pairOf a b) L = true then 0 else if (1024 : Int) ≤ (L.length : Int) + (M.length : Int) then 150 else 0
def linkL (L : List PR.T) (M : List TI.T) (a b : PD.T) : List PR.T := if badP a b = true then L else if memB PR (pairOf a b) L = true then L else if (1024 : Int) ≤ (L.length : Int) + (M.length : Int) then L else lins L (pairOf a b)
def unlinkE (L : List PR.T) (a b : PD.T) : Int := if badP a b = true then 1 else if memB PR (pairOf a b) L = true then 0 else 3
def unlinkL (L : List PR.T) (a b : PD.T) : List PR.T := if badP a b = true then L else if memB PR (pairOf a b) L = true then ldel L (pairOf a b) else L
theorem two_ok (R : HP) (H : Go.Lg.Heap) (tt l mo : Nat) (L : List PR.T) (M : List TI.T) (a b : PD.T) (hs : On [R, pts tt (.obj [.mp l, .mp mo]), pts l (lnkO L), pts mo (monO M)] H) : ∃ rs H', Runs pg an 26 [.one (.ptr tt 0), .agg [vi a.1, vi a.2.1], .agg [vi b.1, vi b.2.1]] H rs H' ∧ rs = [.one (vb (!badP a b))] ∧ On [R, pts tt (.obj [.mp l, .mp mo]), pts l (lnkO L), pts mo (monO M)] H' := by
 refine Runs.of (fn := Try.f26) Try.func26 rfl (by kernel_rfl) [(0, .y (.one (.ptr tt 0))), (1, .y (.agg [vi a.1, vi a.2.1])), (2, .y (.agg [vi b.1, vi b.2.1]))] (by kernel_rfl) ?_
 obtain ⟨n1, hn1⟩ : ∃ n, n = List.length (H : Go.Lg.Heap) := ⟨_, rfl⟩
 obtain ⟨n2, hn2⟩ : ∃ n, n = List.length ((H ++ [.obj [vi a.1, vi a.2.1]]) : Go.Lg.Heap) := ⟨_, rfl⟩
 refine Wp.regionSeq [(0, .y (.one (.ptr n1 0)), (H ++ [.obj [vi a.1, vi a.2.1]])), (1, .y (.one (.ptr n2 0)), ((H ++ [.obj [vi a.1, vi a.2.1]]) ++ [.obj [vi b.1, vi b.2.1]]))] [(0, .y (.one (.ptr tt 0))), (4, .y (.one (.ptr n1 0))), (5, .y (.one (.ptr n2 0)))] ((H ++ [.obj [vi a.1, vi a.2.1]]) ++ [.obj [vi b.1, vi b.2.1]])
   (cast (And.intro (ob_box (P := pg) (A := an) (H := H) (t := 24) (ty := 0) (n := n1) (v := .agg [vi a.1, vi a.2.1]) (cs := [vi a.1, vi a.2.1]) hn1 (by kernel_rfl) (by kernel_rfl) (by kernel_rfl)) (And.intro (ob_box (P := pg) (A := an) (H := (H ++ [.obj [vi a.1, vi a.2.1]])) (t := 24) (ty := 0) (n := n2) (v := .agg [vi b.1, vi b.2.1]) (cs := [vi b.1, vi b.2.1]) hn2 (by kernel_rfl) (by kernel_rfl) (by kernel_rfl)) trivial)) (by kernel_rfl)) (by kernel_rfl) ?_
 refine Wp.gen (cs := [R, pts tt (.obj [.mp l, .mp mo]), pts l (lnkO L), pts mo (monO M), pts n1 (.obj [vi a.1, vi a.2.1]), pts n2 (.obj [vi b.1, vi b.2.1])]) (On.new' hn2 (.obj [vi b.1, vi b.2.1]) (On.new' hn1 (.obj [vi a.1, vi a.2.1]) hs)) ?_
 intro H3 hs4
 rcases Bool.eq_false_or_eq_true ((mayP a)) with c6 | c6
 ·
  obtain ⟨c6p, c6q, c6r, c6s⟩ := may_is c6
  rcases Bool.eq_false_or_eq_true ((mayP b)) with c9 | c9
  ·
   obtain ⟨c9p, c9q, c9r, c9s⟩ := may_is c9
   rcases Bool.eq_false_or_eq_true ((eqb PD a b)) with c12 | c12
   ·
    have hcall13 : Runs pg an 29 [.one (.ptr tt 0)] H3 [.one (vb true)] H3 := by
     refine runs_of ?_
     refine Runs.of (fn := Try.f29) Try.func29 rfl (by kernel_rfl) [(0, .y (.one (.ptr tt 0)))] (by kernel_rfl) ?_
     refine Wp.regionSeq [] [(0, .y (.one (.ptr tt 0)))] H3
       (cast trivial (by kernel_rfl)) (by kernel_rfl) ?_
     refine Wp.regionSeq [(6, .y (.one (.mp l)), H3)] [(2, xb true)] H3
       (cast (And.intro (ob_load_ptr (P := pg) (A := an) (H := H3) (t := 58) (ty := 0) (id := tt) (off := 0) (n := 1) (cs := [.mp l, .mp mo]) (cs' := [.mp l]) (v := .one (.mp l)) (On.at hs4 1 rfl) (by kernel_rfl) (by kernel_rfl) (by kernel_rfl) (by kernel_rfl)) trivial) (by kernel_rfl)) (by kernel_rfl) ?_
     refine Wp.ret ?_
     exact ⟨Or.inr rfl, [.one (vb true)], (by kernel_rfl), ⟨rfl, rfl⟩⟩
    refine Wp.regionSeq [(1, xb true, H3), (3, .y (.agg [vi a.1, vi a.2.1]), H3), (4, xb true, H3), (7, .y (.agg [vi b.1, vi b.2.1]), H3), (8, xb true, H3), (11, .y (.agg [vi a.1, vi a.2.1]), H3), (12, .y (.agg [vi b.1, vi b.2.1]), H3), (13, xb false, H3)] [(6, xb false)] H3
      (cast (And.intro (ob_call (P := pg) (A := an) (H := H3) (g := 29) (vals := [.y (.one (.ptr tt 0))]) (xs0 := [.one (.ptr tt 0)]) (res := [.one (vb true)]) (ats := #[]) (ty := 0) (v := xb true) (H' := H3) [.tmp 0] (by kernel_rfl) (by kernel_rfl) hcall13 (by kernel_rfl)) (And.intro (ob_load_ptr (P := pg) (A := an) (H := H3) (t := 24) (ty := 0) (id := n1) (off := 0) (n := 2) (cs := [vi a.1, vi a.2.1]) (cs' := [vi a.1, vi a.2.1]) (v := .agg [vi a.1, vi a.2.1]) (On.at hs4 4 rfl) (by kernel_rfl) (by kernel_rfl) (by kernel_rfl) (by kernel_rfl)) (And.intro (ob_pure (P := pg) (A := an) (H := H3) (g := 32) (vals := [.y (.agg [vi a.1, vi a.2.1])]) (xs0 := [.agg [vi a.1, vi a.2.1]]) (xs1 := [.agg [vi a.1, vi a.2.1]]) (res := [.one (vb true)]) (ats := #[]) (ty := 0) (v := xb true) [.tmp 0] (by kernel_rfl) (by kernel_rfl) (snap_cons (by kernel_rfl) (snap_nil)) (by have h9 := may_ok a; rw [c6] at h9; exact h9) (by kernel_rfl)) (And.intro (ob_load_ptr (P := pg) (A := an) (H := H3) (t := 24) (ty := 0) (id := n2) (off := 0) (n := 2) (cs := [vi b.1, vi b.2.1]) (cs' := [vi b.1, vi b.2.1]) (v := .agg [vi b.1, vi b.2.1]) (On.at hs4 5 rfl) (by kernel_rfl) (by kernel_rfl) (by kernel_rfl) (by kernel_rfl)) (And.intro (ob_pure (P := pg) (A := an) (H := H3) (g := 32) (vals := [.y (.agg [vi b.1, vi b.2.1])]) (xs0 := [.agg [vi b.1, vi b.2.1]]) (xs1 := [.agg [vi b.1, vi b.2.1]]) (res := [.one (vb true)]) (ats := #[]) (ty := 0) (v := xb true) [.tmp 0] (by kernel_rfl) (by kernel_rfl) (snap_cons (by kernel_rfl) (snap_nil)) (by have h9 := may_ok b; rw [c9] at h9; exact h9) (by kernel_rfl)) (And.intro (ob_load_ptr (P := pg) (A := an) (H := H3) (t := 24) (ty := 0) (id := n1) (off := 0) (n := 2) (cs := [vi a.1, vi a.2.1]) (cs' := [vi a.1, vi a.2.1]) (v := .agg [vi a.1, vi a.2.1]) (On.at hs4 4 rfl) (by kernel_rfl) (by kernel_rfl) (by kernel_rfl) (by kernel_rfl)) (And.intro (ob_load_ptr (P := pg) (A := an) (H := H3) (t := 24) (ty := 0) (id := n2) (off := 0) (n := 2) (cs := [vi b.1, vi b.2.1]) (cs' := [vi b.1, vi b.2.1]) (v := .agg [vi b.1, vi b.2.1]) (On.at hs4 5 rfl) (by kernel_rfl) (by kernel_rfl) (by kernel_rfl) (by kernel_rfl)) (And.intro (ob_neq_agg (P := pg) (A := an) (H := H3) (s := PD) (t := 24) (u := 24) (ty := 0) (x := a) (y := b) (r := false) (by kernel_rfl) c12) trivial)))))))) (by kernel_rfl)) (by kernel_rfl) ?_
    refine Wp.ret ?_
    refine ⟨Or.inr rfl, [.one (vb false)], (by kernel_rfl), ?_⟩
    exact ⟨congrArg (fun z => [Y.one (vb z)]) (show false = !badP a b by unfold badP; simp only [c6, c9, c12, Bool.not_true, Bool.not_false, Bool.and_true, Bool.and_false, Bool.true_and, Bool.false_and]), (On.pick [0, 1, 2, 3] [4, 5] (by kernel_rfl) hs4)⟩
   ·
    have hcall14 : Runs pg an 29 [.one (.ptr tt 0)] H3 [.one (vb true)] H3 := by
     refine runs_of ?_
     refine Runs.of (fn := Try.f29) Try.func29 rfl (by kernel_rfl) [(0, .y (.one (.ptr tt 0)))] (by kernel_rfl) ?_
     refine Wp.regionSeq [] [(0, .y (.one (.ptr tt 0)))] H3
       (cast trivial (by kernel_rfl)) (by kernel_rfl) ?_
     refine Wp.regionSeq [(6, .y (.one (.mp l)), H3)] [(2, xb true)] H3
       (cast (And.intro (ob_load_ptr (P := pg) (A := an) (H := H3) (t := 58) (ty := 0) (id := tt) (off := 0) (n := 1) (cs := [.mp l, .mp mo]) (cs' := [.mp l]) (v := .one (.mp l)) (On.at hs4 1 rfl) (by kernel_rfl) (by kernel_rfl) (by kernel_rfl) (by kernel_rfl)) trivial) (by kernel_rfl)) (by kernel_rfl) ?_
     refine Wp.ret ?_
     exact ⟨Or.inr rfl, [.one (vb true)], (by kernel_rfl), ⟨rfl, rfl⟩⟩
    refine Wp.regionSeq [(1, xb true, H3), (3, .y (.agg [vi a.1, vi a.2.1]), H3), (4, xb true, H3), (7, .y (.agg [vi b.1, vi b.2.1]), H3), (8, xb true, H3), (11, .y (.agg [vi a.1, vi a.2.1]), H3), (12, .y (.agg [vi b.1, vi b.2.1]), H3), (13, xb true, H3)] [(6, xb true)] H3
      (cast (And.intro (ob_call (P := pg) (A := an) (H := H3) (g := 29) (vals := [.y (.one (.ptr tt 0))]) (xs0 := [.one (.ptr tt 0)]) (res := [.one (vb true)]) (ats := #[]) (ty := 0) (v := xb true) (H' := H3) [.tmp 0] (by kernel_rfl) (by kernel_rfl) hcall14 (by kernel_rfl)) (And.intro (ob_load_ptr (P := pg) (A := an) (H := H3) (t := 24) (ty := 0) (id := n1) (off := 0) (n := 2) (cs := [vi a.1, vi a.2.1]) (cs' := [vi a.1, vi a.2.1]) (v := .agg [vi a.1, vi a.2.1]) (On.at hs4 4 rfl) (by kernel_rfl) (by kernel_rfl) (by kernel_rfl) (by kernel_rfl)) (And.intro (ob_pure (P := pg) (A := an) (H := H3) (g := 32) (vals := [.y (.agg [vi a.1, vi a.2.1])]) (xs0 := [.agg [vi a.1, vi a.2.1]]) (xs1 := [.agg [vi a.1, vi a.2.1]]) (res := [.one (vb true)]) (ats := #[]) (ty := 0) (v := xb true) [.tmp 0] (by kernel_rfl) (by kernel_rfl) (snap_cons (by kernel_rfl) (snap_nil)) (by have h9 := may_ok a; rw [c6] at h9; exact h9) (by kernel_rfl)) (And.intro (ob_load_ptr (P := pg) (A := an) (H := H3) (t := 24) (ty := 0) (id := n2) (off := 0) (n := 2) (cs := [vi b.1, vi b.2.1]) (cs' := [vi b.1, vi b.2.1]) (v := .agg [vi b.1, vi b.2.1]) (On.at hs4 5 rfl) (by kernel_rfl) (by kernel_rfl) (by kernel_rfl) (by kernel_rfl)) (And.intro (ob_pure (P := pg) (A := an) (H := H3) (g := 32) (vals := [.y (.agg [vi b.1, vi b.2.1])]) (xs0 := [.agg [vi b.1, vi b.2.1]]) (xs1 := [.agg [vi b.1, vi b.2.1]]) (res := [.one (vb true)]) (ats := #[]) (ty := 0) (v := xb true) [.tmp 0] (by kernel_rfl) (by kernel_rfl) (snap_cons (by kernel_rfl) (snap_nil)) (by have h9 := may_ok b; rw [c9] at h9; exact h9) (by kernel_rfl)) (And.intro (ob_load_ptr (P := pg) (A := an) (H := H3) (t := 24) (ty := 0) (id := n1) (off := 0) (n := 2) (cs := [vi a.1, vi a.2.1]) (cs' := [vi a.1, vi a.2.1]) (v := .agg [vi a.1, vi a.2.1]) (On.at hs4 4 rfl) (by kernel_rfl) (by kernel_rfl) (by kernel_rfl) (by kernel_rfl)) (And.intro (ob_load_ptr (P := pg) (A := an) (H := H3) (t := 24) (ty := 0) (id := n2) (off := 0) (n := 2) (cs := [vi b.1, vi b.2.1]) (cs' := [vi b.1, vi b.2.1]) (v := .agg [vi b.1, vi b.2.1]) (On.at hs4 5 rfl) (by kernel_rfl) (by kernel_rfl) (by kernel_rfl) (by kernel_rfl)) (And.intro (ob_neq_agg (P := pg) (A := an) (H := H3) (s := PD) (t := 24) (u := 24) (ty := 0) (x := a) (y := b) (r := true) (by kernel_rfl) c12) trivial)))))))) (by kernel_rfl)) (by kernel_rfl) ?_
    refine Wp.ret ?_
    refine ⟨Or.inr rfl, [.one (vb true)], (by kernel_rfl), ?_⟩
    exact ⟨congrArg (fun z => [Y.one (vb z)]) (show true = !badP a b by unfold badP; simp only [c6, c9, c12, Bool.not_true, Bool.not_false, Bool.and_true, Bool.and_false, Bool.true_and, Bool.false_and]), (On.pick [0, 1, 2, 3] [4, 5] (by kernel_rfl) hs4)⟩
  ·
   have hcall15 : Runs pg an 29 [.one (.ptr tt 0)] H3 [.one (vb true)] H3 := by
    refine runs_of ?_
    refine Runs.of (fn := Try.f29) Try.func29 rfl (by kernel_rfl) [(0, .y (.one (.ptr tt 0)))] (by kernel_rfl) ?_
    refine Wp.regionSeq [] [(0, .y (.one (.ptr tt 0)))] H3
      (cast trivial (by kernel_rfl)) (by kernel_rfl) ?_
    refine Wp.regionSeq [(6, .y (.one (.mp l)), H3)] [(2, xb true)] H3
      (cast (And.intro (ob_load_ptr (P := pg) (A := an) (H := H3) (t := 58) (ty := 0) (id := tt) (off := 0) (n := 1) (cs := [.mp l, .mp mo]) (cs' := [.mp l]) (v := .one (.mp l)) (On.at hs4 1 rfl) (by kernel_rfl) (by kernel_rfl) (by kernel_rfl) (by kernel_rfl)) trivial) (by kernel_rfl)) (by kernel_rfl) ?_
    refine Wp.ret ?_
    exact ⟨Or.inr rfl, [.one (vb true)], (by kernel_rfl), ⟨rfl, rfl⟩⟩
   refine Wp.regionSeq [(1, xb true, H3), (3, .y (.agg [vi a.1, vi a.2.1]), H3), (4, xb true, H3), (7, .y (.agg [vi b.1, vi b.2.1]), H3), (8, xb false, H3)] [(6, xb false)] H3
     (cast (And.intro (ob_call (P := pg) (A := an) (H := H3) (g := 29) (vals := [.y (.one (.ptr tt 0))]) (xs0 := [.one (.ptr tt 0)]) (res := [.one (vb true)]) (ats := #[]) (ty := 0) (v := xb true) (H' := H3) [.tmp 0] (by kernel_rfl) (by kernel_rfl) hcall15 (by kernel_rfl)) (And.intro (ob_load_ptr (P := pg) (A := an) (H := H3) (t := 24) (ty := 0) (id := n1) (off := 0) (n := 2) (cs := [vi a.1, vi a.2.1]) (cs' := [vi a.1, vi a.2.1]) (v := .agg [vi a.1, vi a.2.1]) (On.at hs4 4 rfl) (by kernel_rfl) (by kernel_rfl) (by kernel_rfl) (by kernel_rfl)) (And.intro (ob_pure (P := pg) (A := an) (H := H3) (g := 32) (vals := [.y (.agg [vi a.1, vi a.2.1])]) (xs0 := [.agg [vi a.1, vi a.2.1]]) (xs1 := [.agg [vi a.1, vi a.2.1]]) (res := [.one (vb true)]) (ats := #[]) (ty := 0) (v := xb true) [.tmp 0] (by kernel_rfl) (by kernel_rfl) (snap_cons (by kernel_rfl) (snap_nil)) (by have h9 := may_ok a; rw [c6] at h9; exact h9) (by kernel_rfl)) (And.intro (ob_load_ptr (P := pg) (A := an) (H := H3) (t := 24) (ty := 0) (id := n2) (off := 0) (n := 2) (cs := [vi b.1, vi b.2.1]) (cs' := [vi b.1, vi b.2.1]) (v := .agg [vi b.1, vi b.2.1]) (On.at hs4 5 rfl) (by kernel_rfl) (by kernel_rfl) (by kernel_rfl) (by kernel_rfl)) (And.intro (ob_pure (P := pg) (A := an) (H := H3) (g := 32) (vals := [.y (.agg [vi b.1, vi b.2.1])]) (xs0 := [.agg [vi b.1, vi b.2.1]]) (xs1 := [.agg [vi b.1, vi b.2.1]]) (res := [.one (vb false)]) (ats := #[]) (ty := 0) (v := xb false) [.tmp 0] (by kernel_rfl) (by kernel_rfl) (snap_cons (by kernel_rfl) (snap_nil)) (by have h9 := may_ok b; rw [c9] at h9; exact h9) (by kernel_rfl)) trivial))))) (by kernel_rfl)) (by kernel_rfl) ?_
   refine Wp.ret ?_
   refine ⟨Or.inr rfl, [.one (vb false)], (by kernel_rfl), ?_⟩
   exact ⟨congrArg (fun z => [Y.one (vb z)]) (show false = !badP a b by unfold badP; simp only [c6, c9, Bool.not_true, Bool.not_false, Bool.and_true, Bool.and_false, Bool.true_and, Bool.false_and]), (On.pick [0, 1, 2, 3] [4, 5] (by kernel_rfl) hs4)⟩
 ·
  have hcall16 : Runs pg an 29 [.one (.ptr tt 0)] H3 [.one (vb true)] H3 := by
   refine runs_of ?_
   refine Runs.of (fn := Try.f29) Try.func29 rfl (by kernel_rfl) [(0, .y (.one (.ptr tt 0)))] (by kernel_rfl) ?_
   refine Wp.regionSeq [] [(0, .y (.one (.ptr tt 0)))] H3
     (cast trivial (by kernel_rfl)) (by kernel_rfl) ?_
   refine Wp.regionSeq [(6, .y (.one (.mp l)), H3)] [(2, xb true)] H3
     (cast (And.intro (ob_load_ptr (P := pg) (A := an) (H := H3) (t := 58) (ty := 0) (id := tt) (off := 0) (n := 1) (cs := [.mp l, .mp mo]) (cs' := [.mp l]) (v := .one (.mp l)) (On.at hs4 1 rfl) (by kernel_rfl) (by kernel_rfl) (by kernel_rfl) (by kernel_rfl)) trivial) (by kernel_rfl)) (by kernel_rfl) ?_
   refine Wp.ret ?_
   exact ⟨Or.inr rfl, [.one (vb true)], (by kernel_rfl), ⟨rfl, rfl⟩⟩
  refine Wp.regionSeq [(1, xb true, H3), (3, .y (.agg [vi a.1, vi a.2.1]), H3), (4, xb false, H3)] [(6, xb false)] H3
    (cast (And.intro (ob_call (P := pg) (A := an) (H := H3) (g := 29) (vals := [.y (.one (.ptr tt 0))]) (xs0 := [.one (.ptr tt 0)]) (res := [.one (vb true)]) (ats := #[]) (ty := 0) (v := xb true) (H' := H3) [.tmp 0] (by kernel_rfl) (by kernel_rfl) hcall16 (by kernel_rfl)) (And.intro (ob_load_ptr (P := pg) (A := an) (H := H3) (t := 24) (ty := 0) (id := n1) (off := 0) (n := 2) (cs := [vi a.1, vi a.2.1]) (cs' := [vi a.1, vi a.2.1]) (v := .agg [vi a.1, vi a.2.1]) (On.at hs4 4 rfl) (by kernel_rfl) (by kernel_rfl) (by kernel_rfl) (by kernel_rfl)) (And.intro (ob_pure (P := pg) (A := an) (H := H3) (g := 32) (vals := [.y (.agg [vi a.1, vi a.2.1])]) (xs0 := [.agg [vi a.1, vi a.2.1]]) (xs1 := [.agg [vi a.1, vi a.2.1]]) (res := [.one (vb false)]) (ats := #[]) (ty := 0) (v := xb false) [.tmp 0] (by kernel_rfl) (by kernel_rfl) (snap_cons (by kernel_rfl) (snap_nil)) (by have h9 := may_ok a; rw [c6] at h9; exact h9) (by kernel_rfl)) trivial))) (by kernel_rfl)) (by kernel_rfl) ?_
  refine Wp.ret ?_
  refine ⟨Or.inr rfl, [.one (vb false)], (by kernel_rfl), ?_⟩
  exact ⟨congrArg (fun z => [Y.one (vb z)]) (show false = !badP a b by unfold badP; simp only [c6, Bool.not_true, Bool.not_false, Bool.and_true, Bool.and_false, Bool.true_and, Bool.false_and]), (On.pick [0, 1, 2, 3] [4, 5] (by kernel_rfl) hs4)⟩
theorem link_ok (R : HP) (H : Go.Lg.Heap) (tt l mo : Nat) (L : List PR.T) (M : List TI.T) (a b : PD.T) (hs : On [R, pts tt (.obj [.mp l, .mp mo]), pts l (lnkO L), pts mo (monO M)] H) (hT : okTies L M = true) : ∃ rs H', Runs pg an 8 [.one (.ptr tt 0), .agg [vi a.1, vi a.2.1], .agg [vi b.1, vi b.2.1]] H rs H' ∧ rs = [.one (vi (linkE L M a b))] ∧ On [R, pts tt (.obj [.mp l, .mp mo]), pts l (lnkO (linkL L M a b)), pts mo (monO M)] H' := by
 obtain ⟨hLo, hL, hU, nL, nM⟩ := okTies_is hT
 have hLM := okTies_sum hT
 refine Runs.of (fn := Try.f8) Try.func8 rfl (by kernel_rfl) [(0, .y (.one (.ptr tt 0))), (1, .y (.agg [vi a.1, vi a.2.1])), (2, .y (.agg [vi b.1, vi b.2.1]))] (by kernel_rfl) ?_
 obtain ⟨n1, hn1⟩ : ∃ n, n = List.length (H : Go.Lg.Heap) := ⟨_, rfl⟩
 obtain ⟨n2, hn2⟩ : ∃ n, n = List.length ((H ++ [.obj [vi a.1, vi a.2.1]]) : Go.Lg.Heap) := ⟨_, rfl⟩
 refine Wp.regionSeq [(0, .y (.one (.ptr n1 0)), (H ++ [.obj [vi a.1, vi a.2.1]])), (1, .y (.one (.ptr n2 0)), ((H ++ [.obj [vi a.1, vi a.2.1]]) ++ [.obj [vi b.1, vi b.2.1]]))] [(0, .y (.one (.ptr tt 0))), (4, .y (.one (.ptr n1 0))), (5, .y (.one (.ptr n2 0)))] ((H ++ [.obj [vi a.1, vi a.2.1]]) ++ [.obj [vi b.1, vi b.2.1]])
   (cast (And.intro (ob_box (P := pg) (A := an) (H := H) (t := 24) (ty := 0) (n := n1) (v := .agg [vi a.1, vi a.2.1]) (cs := [vi a.1, vi a.2.1]) hn1 (by kernel_rfl) (by kernel_rfl) (by kernel_rfl)) (And.intro (ob_box (P := pg) (A := an) (H := (H ++ [.obj [vi a.1, vi a.2.1]])) (t := 24) (ty := 0) (n := n2) (v := .agg [vi b.1, vi b.2.1]) (cs := [vi b.1, vi b.2.1]) hn2 (by kernel_rfl) (by kernel_rfl) (by kernel_rfl)) trivial)) (by kernel_rfl)) (by kernel_rfl) ?_
 refine Wp.gen (cs := [R, pts tt (.obj [.mp l, .mp mo]), pts l (lnkO L), pts mo (monO M), pts n1 (.obj [vi a.1, vi a.2.1]), pts n2 (.obj [vi b.1, vi b.2.1])]) (On.new' hn2 (.obj [vi b.1, vi b.2.1]) (On.new' hn1 (.obj [vi a.1, vi a.2.1]) hs)) ?_
 intro H3 hs4
 refine Wp.seq ?_
 rcases Bool.eq_false_or_eq_true ((badP a b)) with c5 | c5
 ·
  obtain ⟨_, H6, hr7, rfl, hs8⟩ := two_ok _ (H3 : Go.Lg.Heap) tt l mo L M a b (On.call [1, 2, 3] [0, 4, 5] (by kernel_rfl) hs4)
  have hs8 : On [R, pts n1 (.obj [vi a.1, vi a.2.1]), pts n2 (.obj [vi b.1, vi b.2.1]), pts tt (.obj [.mp l, .mp mo]), pts l (lnkO L), pts mo (monO M)] H6 := On.flat hs8
  rw [c5] at hr7
  refine Wp.regionSeq [(1, .y (.agg [vi a.1, vi a.2.1]), H3), (2, .y (.agg [vi b.1, vi b.2.1]), H3), (3, xb false, H6)] [(0, .y (.one (.ptr tt 0))), (4, .y (.one (.ptr n1 0))), (5, .y (.one (.ptr n2 0))), (12, xb true)] H6
    (cast (And.intro (ob_load_ptr (P := pg) (A := an) (H := H3) (t := 24) (ty := 0) (id := n1) (off := 0) (n := 2) (cs := [vi a.1, vi a.2.1]) (cs' := [vi a.1, vi a.2.1]) (v := .agg [vi a.1, vi a.2.1]) (On.at hs4 4 rfl) (by kernel_rfl) (by kernel_rfl) (by kernel_rfl) (by kernel_rfl)) (And.intro (ob_load_ptr (P := pg) (A := an) (H := H3) (t := 24) (ty := 0) (id := n2) (off := 0) (n := 2) (cs := [vi b.1, vi b.2.1]) (cs' := [vi b.1, vi b.2.1]) (v := .agg [vi b.1, vi b.2.1]) (On.at hs4 5 rfl) (by kernel_rfl) (by kernel_rfl) (by kernel_rfl) (by kernel_rfl)) (And.intro (ob_call (P := pg) (A := an) (H := H3) (g := 26) (vals := [.y (.one (.ptr tt 0)), .y (.agg [vi a.1, vi a.2.1]), .y (.agg [vi b.1, vi b.2.1])]) (xs0 := [.one (.ptr tt 0), .agg [vi a.1, vi a.2.1], .agg [vi b.1, vi b.2.1]]) (res := [.one (vb false)]) (ats := #[]) (ty := 0) (v := xb false) (H' := H6) [.tmp 0, .tmp 1, .tmp 2] (by kernel_rfl) (by kernel_rfl) hr7 (by kernel_rfl)) trivial))) (by kernel_rfl)) (by kernel_rfl) ?_
  refine Wp.gen (cs := [R, pts n1 (.obj [vi a.1, vi a.2.1]), pts n2 (.obj [vi b.1, vi b.2.1]), pts tt (.obj [.mp l, .mp mo]), pts l (lnkO L), pts mo (monO M)]) hs8 ?_
  intro H9 hs10
  refine Wp.condT (by kernel_rfl) ?_
  refine Wp.regionSeq [] [(6, xi 1)] H9
    (cast trivial (by kernel_rfl)) (by kernel_rfl) ?_
  refine Wp.ret ?_
  refine ⟨Or.inr rfl, [.one (vi 1)], (by kernel_rfl), ?_⟩
  have e1 : 1 = linkE L M a b := by unfold linkE; simp only [c5, Bool.not_true, Bool.not_false, Bool.and_true, Bool.and_false, Bool.true_and, Bool.false_and, if_true, if_false, Bool.false_eq_true]; first | done | rfl | (rw [if_pos (by omega)]) | (rw [if_neg (by omega)])
  have e2 : L = linkL L M a b := by unfold linkL; simp only [c5, Bool.not_true, Bool.not_false, Bool.and_true, Bool.and_false, Bool.true_and, Bool.false_and, if_true, if_false, Bool.false_eq_true]; first | done | rfl | (rw [if_pos (by omega)]) | (rw [if_neg (by omega)])
  exact ⟨congrArg (fun z : Int => [Y.one (vi z)]) e1, by rw [← e2]; exact (On.pick [0, 3, 4, 5] [1, 2] (by kernel_rfl) hs10)⟩
 ·
  obtain ⟨_, H11, hr12, rfl, hs13⟩ := two_ok _ (H3 : Go.Lg.Heap) tt l mo L M a b (On.call [1, 2, 3] [0, 4, 5] (by kernel_rfl) hs4)
  have hs13 : On [R, pts n1 (.obj [vi a.1, vi a.2.1]), pts n2 (.obj [vi b.1, vi b.2.1]), pts tt (.obj [.mp l, .mp mo]), pts l (lnkO L), pts mo (monO M)] H11 := On.flat hs13
  obtain ⟨c5m, c5n, c5o⟩ := bad_is c5
  obtain ⟨c5p, c5q, _, _⟩ := may_is c5m
  obtain ⟨c5r, c5s, _, _⟩ := may_is c5n
  rw [c5] at hr12
  refine Wp.regionSeq [(1, .y (.agg [vi a.1, vi a.2.1]), H3), (2, .y (.agg [vi b.1, vi b.2.1]), H3), (3, xb true, H11)] [(0, .y (.one (.ptr tt 0))), (4, .y (.one (.ptr n1 0))), (5, .y (.one (.ptr n2 0))), (12, xb false)] H11
    (cast (And.intro (ob_load_ptr (P := pg) (A := an) (H := H3) (t := 24) (ty := 0) (id := n1) (off := 0) (n := 2) (cs := [vi a.1, vi a.2.1]) (cs' := [vi a.1, vi a.2.1]) (v := .agg [vi a.1, vi a.2.1]) (On.at hs4 4 rfl) (by kernel_rfl) (by kernel_rfl) (by kernel_rfl) (by kernel_rfl)) (And.intro (ob_load_ptr (P := pg) (A := an) (H := H3) (t := 24) (ty := 0) (id := n2) (off := 0) (n := 2) (cs := [vi b.1, vi b.2.1]) (cs' := [vi b.1, vi b.2.1]) (v := .agg [vi b.1, vi b.2.1]) (On.at hs4 5 rfl) (by kernel_rfl) (by kernel_rfl) (by kernel_rfl) (by kernel_rfl)) (And.intro (ob_call (P := pg) (A := an) (H := H3) (g := 26) (vals := [.y (.one (.ptr tt 0)), .y (.agg [vi a.1, vi a.2.1]), .y (.agg [vi b.1, vi b.2.1])]) (xs0 := [.one (.ptr tt 0), .agg [vi a.1, vi a.2.1], .agg [vi b.1, vi b.2.1]]) (res := [.one (vb true)]) (ats := #[]) (ty := 0) (v := xb true) (H' := H11) [.tmp 0, .tmp 1, .tmp 2] (by kernel_rfl) (by kernel_rfl) hr12 (by kernel_rfl)) trivial))) (by kernel_rfl)) (by kernel_rfl) ?_
  refine Wp.gen (cs := [R, pts n1 (.obj [vi a.1, vi a.2.1]), pts n2 (.obj [vi b.1, vi b.2.1]), pts tt (.obj [.mp l, .mp mo]), pts l (lnkO L), pts mo (monO M)]) hs13 ?_
  intro H14 hs15
  refine Wp.condF (by kernel_rfl) ?_
  refine Wp.skip ?_
  obtain ⟨q16, hq17⟩ : ∃ q, q = pairOf a b := ⟨_, rfl⟩
  obtain ⟨n18, hn18⟩ : ∃ n, n = List.length (H14 : Go.Lg.Heap) := ⟨_, rfl⟩
  refine Wp.regionSeq [(0, .y (.agg [vi a.1, vi a.2.1]), H14), (1, .y (.agg [vi b.1, vi b.2.1]), H14), (2, .y (.agg [vi q16.1.1, vi q16.1.2.1, vi q16.2.1.1, vi q16.2.1.2.1]), H14), (3, .y (.one (.ptr n18 0)), (H14 ++ [.obj [vi 0, vi 0, vi 0, vi 0]])), (4, .tup [], (List.set (α := O) (H14 ++ [.obj [vi 0, vi 0, vi 0, vi 0]]) n18 (.obj [vi q16.1.1, vi q16.1.2.1, vi q16.2.1.1, vi q16.2.1.2.1])))] [(0, .y (.one (.ptr tt 0))), (7, .y (.one (.ptr n18 0)))] (List.set (α := O) (H14 ++ [.obj [vi 0, vi 0, vi 0, vi 0]]) n18 (.obj [vi q16.1.1, vi q16.1.2.1, vi q16.2.1.1, vi q16.2.1.2.1]))
    (cast (And.intro (ob_load_ptr (P := pg) (A := an) (H := H14) (t := 24) (ty := 0) (id := n1) (off := 0) (n := 2) (cs := [vi a.1, vi a.2.1]) (cs' := [vi a.1, vi a.2.1]) (v := .agg [vi a.1, vi a.2.1]) (On.at hs15 1 rfl) (by kernel_rfl) (by kernel_rfl) (by kernel_rfl) (by kernel_rfl)) (And.intro (ob_load_ptr (P := pg) (A := an) (H := H14) (t := 24) (ty := 0) (id := n2) (off := 0) (n := 2) (cs := [vi b.1, vi b.2.1]) (cs' := [vi b.1, vi b.2.1]) (v := .agg [vi b.1, vi b.2.1]) (On.at hs15 2 rfl) (by kernel_rfl) (by kernel_rfl) (by kernel_rfl) (by kernel_rfl)) (And.intro (ob_pure (P := pg) (A := an) (H := H14) (g := 27) (vals := [.y (.agg [vi a.1, vi a.2.1]), .y (.agg [vi b.1, vi b.2.1])]) (xs0 := [.agg [vi a.1, vi a.2.1], .agg [vi b.1, vi b.2.1]]) (xs1 := [.agg [vi a.1, vi a.2.1], .agg [vi b.1, vi b.2.1]]) (res := [.agg [vi q16.1.1, vi q16.1.2.1, vi q16.2.1.1, vi q16.2.1.2.1]]) (ats := #[]) (ty := 0) (v := .y (.agg [vi q16.1.1, vi q16.1.2.1, vi q16.2.1.1, vi q16.2.1.2.1])) [.tmp 0, .tmp 1] (by kernel_rfl) (by kernel_rfl) (snap_cons (by kernel_rfl) (snap_cons (by kernel_rfl) (snap_nil))) (paired_q a b q16 hq17 (by omega) (by omega) (by omega) (by omega)) (by kernel_rfl)) (And.intro (ob_alloc (P := pg) (A := an) (H := H14) (t := 67) (ty := 0) (n := n18) (cs := [vi 0, vi 0, vi 0, vi 0]) hn18 (by kernel_rfl)) (And.intro (ob_store_ptr (P := pg) (A := an) (H := (H14 ++ [.obj [vi 0, vi 0, vi 0, vi 0]])) (t := 67) (ty := 0) (id := n18) (off := 0) (cs := [vi 0, vi 0, vi 0, vi 0]) (cs' := [vi q16.1.1, vi q16.1.2.1, vi q16.2.1.1, vi q16.2.1.2.1]) (v := .agg [vi q16.1.1, vi q16.1.2.1, vi q16.2.1.1, vi q16.2.1.2.1]) (On.at (On.new' hn18 (.obj [vi 0, vi 0, vi 0, vi 0]) hs15) 6 rfl) (by kernel_rfl) (by kernel_rfl) (by kernel_rfl)) trivial))))) (by kernel_rfl)) (by kernel_rfl) ?_
  refine Wp.gen (cs := [R, pts n1 (.obj [vi a.1, vi a.2.1]), pts n2 (.obj [vi b.1, vi b.2.1]), pts tt (.obj [.mp l, .mp mo]), pts l (lnkO L), pts mo (monO M), pts n18 (.obj [vi q16.1.1, vi q16.1.2.1, vi q16.2.1.1, vi q16.2.1.2.1])]) (On.put (.obj [vi q16.1.1, vi q16.1.2.1, vi q16.2.1.1, vi q16.2.1.2.1]) (On.new' hn18 (.obj [vi 0, vi 0, vi 0, vi 0]) hs15) 6 rfl) ?_
  intro H19 hs20
  refine Wp.seq ?_
  rcases Bool.eq_false_or_eq_true ((memB PR q16 L)) with c21 | c21
  ·
   refine Wp.regionSeq [(3, .y (.one (.mp l)), H19), (4, .y (.agg [vi q16.1.1, vi q16.1.2.1, vi q16.2.1.1, vi q16.2.1.2.1]), H19), (5, xi 1, H19)] [(0, .y (.one (.ptr tt 0))), (7, .y (.one (.ptr n18 0))), (22, xb true)] H19
     (cast (And.intro (ob_load_ptr (P := pg) (A := an) (H := H19) (t := 58) (ty := 0) (id := tt) (off := 0) (n := 1) (cs := [.mp l, .mp mo]) (cs' := [.mp l]) (v := .one (.mp l)) (On.at hs20 3 rfl) (by kernel_rfl) (by kernel_rfl) (by kernel_rfl) (by kernel_rfl)) (And.intro (ob_load_ptr (P := pg) (A := an) (H := H19) (t := 67) (ty := 0) (id := n18) (off := 0) (n := 4) (cs := [vi q16.1.1, vi q16.1.2.1, vi q16.2.1.1, vi q16.2.1.2.1]) (cs' := [vi q16.1.1, vi q16.1.2.1, vi q16.2.1.1, vi q16.2.1.2.1]) (v := .agg [vi q16.1.1, vi q16.1.2.1, vi q16.2.1.1, vi q16.2.1.2.1]) (On.at hs20 6 rfl) (by kernel_rfl) (by kernel_rfl) (by kernel_rfl) (by kernel_rfl)) (And.intro (lk_hit (A := an) (H := H19) (id := l) (es := L) (x := q16) (On.at hs20 4 rfl) hL c21) trivial))) (by kernel_rfl)) (by kernel_rfl) ?_
   refine Wp.condT (by kernel_rfl) ?_
   refine Wp.regionSeq [] [(6, xi 0)] H19
     (cast trivial (by kernel_rfl)) (by kernel_rfl) ?_
   refine Wp.ret ?_
   refine ⟨Or.inr rfl, [.one (vi 0)], (by kernel_rfl), ?_⟩
   have e1 : 0 = linkE L M a b := by unfold linkE; rw [← hq17]; simp only [c5, c21, Bool.not_true, Bool.not_false, Bool.and_true, Bool.and_false, Bool.true_and, Bool.false_and, if_true, if_false, Bool.false_eq_true]; first | done | rfl | (rw [if_pos (by omega)]) | (rw [if_neg (by omega)])
   have e2 : L = linkL L M a b := by unfold linkL; rw [← hq17]; simp only [c5, c21, Bool.not_true, Bool.not_false, Bool.and_true, Bool.and_false, Bool.true_and, Bool.false_and, if_true, if_false, Bool.false_eq_true]; first | done | rfl | (rw [if_pos (by omega)]) | (rw [if_neg (by omega)])
   exact ⟨congrArg (fun z : Int => [Y.one (vi z)]) e1, by rw [← e2]; exact (On.pick [0, 3, 4, 5] [1, 2, 6] (by kernel_rfl) hs20)⟩
  ·
   refine Wp.regionSeq [(3, .y (.one (.mp l)), H19), (4, .y (.agg [vi q16.1.1, vi q16.1.2.1, vi q16.2.1.1, vi q16.2.1.2.1]), H19), (5, xi 0, H19)] [(0, .y (.one (.ptr tt 0))), (7, .y (.one (.ptr n18 0))), (22, xb false)] H19
     (cast (And.intro (ob_load_ptr (P := pg) (A := an) (H := H19) (t := 58) (ty := 0) (id := tt) (off := 0) (n := 1) (cs := [.mp l, .mp mo]) (cs' := [.mp l]) (v := .one (.mp l)) (On.at hs20 3 rfl) (by kernel_rfl) (by kernel_rfl) (by kernel_rfl) (by kernel_rfl)) (And.intro (ob_load_ptr (P := pg) (A := an) (H := H19) (t := 67) (ty := 0) (id := n18) (off := 0) (n := 4) (cs := [vi q16.1.1, vi q16.1.2.1, vi q16.2.1.1, vi q16.2.1.2.1]) (cs' := [vi q16.1.1, vi q16.1.2.1, vi q16.2.1.1, vi q16.2.1.2.1]) (v := .agg [vi q16.1.1, vi q16.1.2.1, vi q16.2.1.1, vi q16.2.1.2.1]) (On.at hs20 6 rfl) (by kernel_rfl) (by kernel_rfl) (by kernel_rfl) (by kernel_rfl)) (And.intro (lk_miss (A := an) (H := H19) (id := l) (es := L) (x := q16) (On.at hs20 4 rfl) c21) trivial))) (by kernel_rfl)) (by kernel_rfl) ?_
   refine Wp.condF (by kernel_rfl) ?_
   refine Wp.skip ?_
   refine Wp.seq ?_
   rcases ile (1024) (((L.length : Int) + (M.length : Int))) with c23 | c23
   ·
    have hcall24 : Runs pg an 28 [.one (.ptr tt 0)] H19 [.one (vb true)] H19 := by
     refine runs_of ?_
     refine Runs.of (fn := Try.f28) Try.func28 rfl (by kernel_rfl) [(0, .y (.one (.ptr tt 0)))] (by kernel_rfl) ?_
     refine Wp.regionSeq [] [(0, .y (.one (.ptr tt 0)))] H19
       (cast trivial (by kernel_rfl)) (by kernel_rfl) ?_
     refine Wp.regionSeq [(3, .y (.one (.mp l)), H19), (4, xi (L.length : Int), H19), (8, .y (.one (.mp mo)), H19), (9, xi (M.length : Int), H19), (10, xi ((L.length : Int) + (M.length : Int)), H19), (11, xb true, H19)] [(2, xb true)] H19
       (cast (And.intro (ob_load_ptr (P := pg) (A := an) (H := H19) (t := 58) (ty := 0) (id := tt) (off := 0) (n := 1) (cs := [.mp l, .mp mo]) (cs' := [.mp l]) (v := .one (.mp l)) (On.at hs20 3 rfl) (by kernel_rfl) (by kernel_rfl) (by kernel_rfl) (by kernel_rfl)) (And.intro (lk_len (A := an) (H := H19) (id := l) (es := L) (On.at hs20 4 rfl) (ts := #[58]) rfl rfl) (And.intro (ob_load_ptr (P := pg) (A := an) (H := H19) (t := 59) (ty := 0) (id := tt) (off := 1) (n := 1) (cs := [.mp l, .mp mo]) (cs' := [.mp mo]) (v := .one (.mp mo)) (On.at hs20 3 rfl) (by kernel_rfl) (by kernel_rfl) (by kernel_rfl) (by kernel_rfl)) (And.intro (mo_len (A := an) (H := H19) (id := mo) (ms := M) (On.at hs20 5 rfl) (ts := #[59]) rfl rfl) (And.intro (ob_raw (P := pg) (A := an) (vals := [xi (L.length : Int), xi (M.length : Int)]) (H := H19) (op := .binOp .add 3 (.tmp 0) (.tmp 1) 3) (ty := 0) (r := xi (IntKind.wrap .i64 ((L.length : Int) + (M.length : Int)))) (v := xi ((L.length : Int) + (M.length : Int))) (by kernel_rfl) (congrArg (fun z => xi z) ((wrap64 (by omega)).trans (by omega)))) (And.intro (ob_raw (P := pg) (A := an) (vals := [xi ((L.length : Int) + (M.length : Int)), xi 1024]) (H := H19) (op := .binOp .geq 3 (.tmp 0) (.tmp 1) 3) (ty := 0) (r := xb (decide (ILe (1024) (((L.length : Int) + (M.length : Int)))))) (v := xb true) (by kernel_rfl) (congrArg (fun z => xb z) (decide_eq_true (by omega)))) trivial)))))) (by kernel_rfl)) (by kernel_rfl) ?_
     refine Wp.ret ?_
     exact ⟨Or.inr rfl, [.one (vb true)], (by kernel_rfl), ⟨rfl, rfl⟩⟩
    refine Wp.regionSeq [(1, xb true, H19)] [(0, .y (.one (.ptr tt 0))), (7, .y (.one (.ptr n18 0))), (24, xb true)] H19
      (cast (And.intro (ob_call (P := pg) (A := an) (H := H19) (g := 28) (vals := [.y (.one (.ptr tt 0))]) (xs0 := [.one (.ptr tt 0)]) (res := [.one (vb true)]) (ats := #[]) (ty := 0) (v := xb true) (H' := H19) [.tmp 0] (by kernel_rfl) (by kernel_rfl) hcall24 (by kernel_rfl)) trivial) (by kernel_rfl)) (by kernel_rfl) ?_
    refine Wp.condT (by kernel_rfl) ?_
    refine Wp.regionSeq [] [(6, xi 150)] H19
      (cast trivial (by kernel_rfl)) (by kernel_rfl) ?_
    refine Wp.ret ?_
    refine ⟨Or.inr rfl, [.one (vi 150)], (by kernel_rfl), ?_⟩
    have e1 : 150 = linkE L M a b := by unfold linkE; rw [← hq17]; simp only [c5, c21, Bool.not_true, Bool.not_false, Bool.and_true, Bool.and_false, Bool.true_and, Bool.false_and, if_true, if_false, Bool.false_eq_true]; first | done | rfl | (rw [if_pos (by omega)]) | (rw [if_neg (by omega)])
    have e2 : L = linkL L M a b := by unfold linkL; rw [← hq17]; simp only [c5, c21, Bool.not_true, Bool.not_false, Bool.and_true, Bool.and_false, Bool.true_and, Bool.false_and, if_true, if_false, Bool.false_eq_true]; first | done | rfl | (rw [if_pos (by omega)]) | (rw [if_neg (by omega)])
    exact ⟨congrArg (fun z : Int => [Y.one (vi z)]) e1, by rw [← e2]; exact (On.pick [0, 3, 4, 5] [1, 2, 6] (by kernel_rfl) hs20)⟩
   ·
    have hcall25 : Runs pg an 28 [.one (.ptr tt 0)] H19 [.one (vb false)] H19 := by
     refine runs_of ?_
     refine Runs.of (fn := Try.f28) Try.func28 rfl (by kernel_rfl) [(0, .y (.one (.ptr tt 0)))] (by kernel_rfl) ?_
     refine Wp.regionSeq [] [(0, .y (.one (.ptr tt 0)))] H19
       (cast trivial (by kernel_rfl)) (by kernel_rfl) ?_
     refine Wp.regionSeq [(3, .y (.one (.mp l)), H19), (4, xi (L.length : Int), H19), (8, .y (.one (.mp mo)), H19), (9, xi (M.length : Int), H19), (10, xi ((L.length : Int) + (M.length : Int)), H19), (11, xb false, H19)] [(2, xb false)] H19
       (cast (And.intro (ob_load_ptr (P := pg) (A := an) (H := H19) (t := 58) (ty := 0) (id := tt) (off := 0) (n := 1) (cs := [.mp l, .mp mo]) (cs' := [.mp l]) (v := .one (.mp l)) (On.at hs20 3 rfl) (by kernel_rfl) (by kernel_rfl) (by kernel_rfl) (by kernel_rfl)) (And.intro (lk_len (A := an) (H := H19) (id := l) (es := L) (On.at hs20 4 rfl) (ts := #[58]) rfl rfl) (And.intro (ob_load_ptr (P := pg) (A := an) (H := H19) (t := 59) (ty := 0) (id := tt) (off := 1) (n := 1) (cs := [.mp l, .mp mo]) (cs' := [.mp mo]) (v := .one (.mp mo)) (On.at hs20 3 rfl) (by kernel_rfl) (by kernel_rfl) (by kernel_rfl) (by kernel_rfl)) (And.intro (mo_len (A := an) (H := H19) (id := mo) (ms := M) (On.at hs20 5 rfl) (ts := #[59]) rfl rfl) (And.intro (ob_raw (P := pg) (A := an) (vals := [xi (L.length : Int), xi (M.length : Int)]) (H := H19) (op := .binOp .add 3 (.tmp 0) (.tmp 1) 3) (ty := 0) (r := xi (IntKind.wrap .i64 ((L.length : Int) + (M.length : Int)))) (v := xi ((L.length : Int) + (M.length : Int))) (by kernel_rfl) (congrArg (fun z => xi z) ((wrap64 (by omega)).trans (by omega)))) (And.intro (ob_raw (P := pg) (A := an) (vals := [xi ((L.length : Int) + (M.length : Int)), xi 1024]) (H := H19) (op := .binOp .geq 3 (.tmp 0) (.tmp 1) 3) (ty := 0) (r := xb (decide (ILe (1024) (((L.length : Int) + (M.length : Int)))))) (v := xb false) (by kernel_rfl) (congrArg (fun z => xb z) (decide_eq_false (by omega)))) trivial)))))) (by kernel_rfl)) (by kernel_rfl) ?_
     refine Wp.ret ?_
     exact ⟨Or.inr rfl, [.one (vb false)], (by kernel_rfl), ⟨rfl, rfl⟩⟩
    refine Wp.regionSeq [(1, xb false, H19)] [(0, .y (.one (.ptr tt 0))), (7, .y (.one (.ptr n18 0))), (24, xb false)] H19
      (cast (And.intro (ob_call (P := pg) (A := an) (H := H19) (g := 28) (vals := [.y (.one (.ptr tt 0))]) (xs0 := [.one (.ptr tt 0)]) (res := [.one (vb false)]) (ats := #[]) (ty := 0) (v := xb false) (H' := H19) [.tmp 0] (by kernel_rfl) (by kernel_rfl) hcall25 (by kernel_rfl)) trivial) (by kernel_rfl)) (by kernel_rfl) ?_
    refine Wp.condF (by kernel_rfl) ?_
    refine Wp.skip ?_
    refine Wp.regionSeq [(3, .y (.one (.mp l)), H19), (4, .y (.agg [vi q16.1.1, vi q16.1.2.1, vi q16.2.1.1, vi q16.2.1.2.1]), H19), (5, .tup [], (List.set (α := O) H19 l (lnkO (lins L q16))))] [] (List.set (α := O) H19 l (lnkO (lins L q16)))
      (cast (And.intro (ob_load_ptr (P := pg) (A := an) (H := H19) (t := 58) (ty := 0) (id := tt) (off := 0) (n := 1) (cs := [.mp l, .mp mo]) (cs' := [.mp l]) (v := .one (.mp l)) (On.at hs20 3 rfl) (by kernel_rfl) (by kernel_rfl) (by kernel_rfl) (by kernel_rfl)) (And.intro (ob_load_ptr (P := pg) (A := an) (H := H19) (t := 67) (ty := 0) (id := n18) (off := 0) (n := 4) (cs := [vi q16.1.1, vi q16.1.2.1, vi q16.2.1.1, vi q16.2.1.2.1]) (cs' := [vi q16.1.1, vi q16.1.2.1, vi q16.2.1.1, vi q16.2.1.2.1]) (v := .agg [vi q16.1.1, vi q16.1.2.1, vi q16.2.1.1, vi q16.2.1.2.1]) (On.at hs20 6 rfl) (by kernel_rfl) (by kernel_rfl) (by kernel_rfl) (by kernel_rfl)) (And.intro (lk_put (A := an) (H := H19) (id := l) (es := L) (x := q16) (On.at hs20 4 rfl) hL) trivial))) (by kernel_rfl)) (by kernel_rfl) ?_
    refine Wp.gen (cs := [R, pts n1 (.obj [vi a.1, vi a.2.1]), pts n2 (.obj [vi b.1, vi b.2.1]), pts tt (.obj [.mp l, .mp mo]), pts l (lnkO (lins L q16)), pts mo (monO M), pts n18 (.obj [vi q16.1.1, vi q16.1.2.1, vi q16.2.1.1, vi q16.2.1.2.1])]) (On.put (lnkO (lins L q16)) hs20 4 rfl) ?_
    intro H26 hs27
    refine Wp.regionSeq [] [(6, xi 0)] H26
      (cast trivial (by kernel_rfl)) (by kernel_rfl) ?_
    refine Wp.ret ?_
    refine ⟨Or.inr rfl, [.one (vi 0)], (by kernel_rfl), ?_⟩
    have e1 : 0 = linkE L M a b := by unfold linkE; rw [← hq17]; simp only [c5, c21, Bool.not_true, Bool.not_false, Bool.and_true, Bool.and_false, Bool.true_and, Bool.false_and, if_true, if_false, Bool.false_eq_true]; first | done | rfl | (rw [if_pos (by omega)]) | (rw [if_neg (by omega)])
    have e2 : (lins L q16) = linkL L M a b := by unfold linkL; rw [← hq17]; simp only [c5, c21, Bool.not_true, Bool.not_false, Bool.and_true, Bool.and_false, Bool.true_and, Bool.false_and, if_true, if_false, Bool.false_eq_true]; first | done | rfl | (rw [if_pos (by omega)]) | (rw [if_neg (by omega)])
    exact ⟨congrArg (fun z : Int => [Y.one (vi z)]) e1, by rw [← e2]; exact (On.pick [0, 3, 4, 5] [1, 2, 6] (by kernel_rfl) hs27)⟩
end Go.Proofs.Ytjhgjbagmkiibaa.E
end
