/- Lemmas. -/
import Derived.Test.YtjhgjbagmkiibaaR15TC
namespace Go.Proofs.Ytjhgjbagmkiibaa.E0
open Go.Lg
set_option linter.unusedVariables false
set_option maxRecDepth 100000
set_option maxHeartbeats 8000000
set_option linter.unusedSimpArgs false
theorem cl35 (R : HP) (H : Go.Lg.Heap) (p : Nat) (a : PD.T) (w : PR.T) (hs : On [R, pts p (.obj [vi a.1, vi a.2.1])] H) : ∃ rs H', Runs pg an 35 [.agg [vi w.1.1, vi w.1.2.1, vi w.2.1.1, vi w.2.1.2.1], .one (.ptr p 0)] H rs H' ∧ rs = [.one (vb (q35 a w))] ∧ On [R, pts p (.obj [vi a.1, vi a.2.1])] H' := by
 refine Runs.of (fn := Try.f35) Try.func35 rfl (by kernel_rfl) [(0, .y (.agg [vi w.1.1, vi w.1.2.1, vi w.2.1.1, vi w.2.1.2.1])), (1, .y (.one (.ptr p 0)))] (by kernel_rfl) ?_
 obtain ⟨n1, hn1⟩ : ∃ n, n = List.length (H : Go.Lg.Heap) := ⟨_, rfl⟩
 refine rSq [(0, .y (.one (.ptr n1 0)), (H ++ [.obj [vi w.1.1, vi w.1.2.1, vi w.2.1.1, vi w.2.1.2.1]]))] [(1, .y (.one (.ptr p 0))), (2, .y (.one (.ptr n1 0)))] (H ++ [.obj [vi w.1.1, vi w.1.2.1, vi w.2.1.1, vi w.2.1.2.1]])
   (cast (And.intro (ob_box (P := pg) (A := an) (H := H) (t := 72) (ty := 0) (n := n1) (v := .agg [vi w.1.1, vi w.1.2.1, vi w.2.1.1, vi w.2.1.2.1]) (cs := [vi w.1.1, vi w.1.2.1, vi w.2.1.1, vi w.2.1.2.1]) hn1 (by kernel_rfl) (by kernel_rfl) (by kernel_rfl)) trivial) (by kernel_rfl)) (by kernel_rfl) ?_
 refine wG (cs := [R, pts p (.obj [vi a.1, vi a.2.1]), pts n1 (.obj [vi w.1.1, vi w.1.2.1, vi w.2.1.1, vi w.2.1.2.1])]) (On.new' hn1 (.obj [vi w.1.1, vi w.1.2.1, vi w.2.1.1, vi w.2.1.2.1]) hs) ?_
 intro H2 hs3
 rcases Bool.eq_false_or_eq_true ((eqb PD w.2.1 a)) with c4 | c4
 ·
  rcases Bool.eq_false_or_eq_true ((eqb PR w (a, (a, ())))) with c5 | c5
  ·
   refine rSq [(1, .y (.agg [vi w.2.1.1, vi w.2.1.2.1]), H2), (2, .y (.agg [vi a.1, vi a.2.1]), H2), (3, xb true, H2), (5, .y (.agg [vi w.1.1, vi w.1.2.1, vi w.2.1.1, vi w.2.1.2.1]), H2), (6, .y (.agg [vi a.1, vi a.2.1]), H2), (7, .y (.agg [vi a.1, vi a.2.1]), H2), (9, xb false, H2)] [(3, xb false)] H2
     (cast (And.intro (ob_load_ptr (P := pg) (A := an) (H := H2) (t := 24) (ty := 0) (id := n1) (off := 2) (n := 2) (cs := [vi w.1.1, vi w.1.2.1, vi w.2.1.1, vi w.2.1.2.1]) (cs' := [vi w.2.1.1, vi w.2.1.2.1]) (v := .agg [vi w.2.1.1, vi w.2.1.2.1]) (On.at hs3 2 rfl) (by kernel_rfl) (by kernel_rfl) (by kernel_rfl) (by kernel_rfl)) (And.intro (ob_load_ptr (P := pg) (A := an) (H := H2) (t := 24) (ty := 0) (id := p) (off := 0) (n := 2) (cs := [vi a.1, vi a.2.1]) (cs' := [vi a.1, vi a.2.1]) (v := .agg [vi a.1, vi a.2.1]) (On.at hs3 1 rfl) (by kernel_rfl) (by kernel_rfl) (by kernel_rfl) (by kernel_rfl)) (And.intro (ob_eq_agg (P := pg) (A := an) (H := H2) (s := PD) (t := 24) (u := 24) (ty := 0) (x := w.2.1) (y := a) (r := true) (by kernel_rfl) c4) (And.intro (ob_load_ptr (P := pg) (A := an) (H := H2) (t := 72) (ty := 0) (id := n1) (off := 0) (n := 4) (cs := [vi w.1.1, vi w.1.2.1, vi w.2.1.1, vi w.2.1.2.1]) (cs' := [vi w.1.1, vi w.1.2.1, vi w.2.1.1, vi w.2.1.2.1]) (v := .agg [vi w.1.1, vi w.1.2.1, vi w.2.1.1, vi w.2.1.2.1]) (On.at hs3 2 rfl) (by kernel_rfl) (by kernel_rfl) (by kernel_rfl) (by kernel_rfl)) (And.intro (ob_load_ptr (P := pg) (A := an) (H := H2) (t := 24) (ty := 0) (id := p) (off := 0) (n := 2) (cs := [vi a.1, vi a.2.1]) (cs' := [vi a.1, vi a.2.1]) (v := .agg [vi a.1, vi a.2.1]) (On.at hs3 1 rfl) (by kernel_rfl) (by kernel_rfl) (by kernel_rfl) (by kernel_rfl)) (And.intro (ob_load_ptr (P := pg) (A := an) (H := H2) (t := 24) (ty := 0) (id := p) (off := 0) (n := 2) (cs := [vi a.1, vi a.2.1]) (cs' := [vi a.1, vi a.2.1]) (v := .agg [vi a.1, vi a.2.1]) (On.at hs3 1 rfl) (by kernel_rfl) (by kernel_rfl) (by kernel_rfl) (by kernel_rfl)) (And.intro (ob_neq_agg (P := pg) (A := an) (H := H2) (s := PR) (t := 72) (u := 72) (ty := 0) (x := w) (y := (a, (a, ()))) (r := false) (by kernel_rfl) c5) trivial))))))) (by kernel_rfl)) (by kernel_rfl) ?_
   refine wE ?_
   refine ⟨Or.inr rfl, [.one (vb false)], (by kernel_rfl), ?_⟩
   exact ⟨congrArg (fun z => [Y.one (vb z)]) (show false = q35 a w by unfold q35; simp [c4, c5]), (On.pick [0, 1] [2] (by kernel_rfl) hs3)⟩
  ·
   refine rSq [(1, .y (.agg [vi w.2.1.1, vi w.2.1.2.1]), H2), (2, .y (.agg [vi a.1, vi a.2.1]), H2), (3, xb true, H2), (5, .y (.agg [vi w.1.1, vi w.1.2.1, vi w.2.1.1, vi w.2.1.2.1]), H2), (6, .y (.agg [vi a.1, vi a.2.1]), H2), (7, .y (.agg [vi a.1, vi a.2.1]), H2), (9, xb true, H2)] [(3, xb true)] H2
     (cast (And.intro (ob_load_ptr (P := pg) (A := an) (H := H2) (t := 24) (ty := 0) (id := n1) (off := 2) (n := 2) (cs := [vi w.1.1, vi w.1.2.1, vi w.2.1.1, vi w.2.1.2.1]) (cs' := [vi w.2.1.1, vi w.2.1.2.1]) (v := .agg [vi w.2.1.1, vi w.2.1.2.1]) (On.at hs3 2 rfl) (by kernel_rfl) (by kernel_rfl) (by kernel_rfl) (by kernel_rfl)) (And.intro (ob_load_ptr (P := pg) (A := an) (H := H2) (t := 24) (ty := 0) (id := p) (off := 0) (n := 2) (cs := [vi a.1, vi a.2.1]) (cs' := [vi a.1, vi a.2.1]) (v := .agg [vi a.1, vi a.2.1]) (On.at hs3 1 rfl) (by kernel_rfl) (by kernel_rfl) (by kernel_rfl) (by kernel_rfl)) (And.intro (ob_eq_agg (P := pg) (A := an) (H := H2) (s := PD) (t := 24) (u := 24) (ty := 0) (x := w.2.1) (y := a) (r := true) (by kernel_rfl) c4) (And.intro (ob_load_ptr (P := pg) (A := an) (H := H2) (t := 72) (ty := 0) (id := n1) (off := 0) (n := 4) (cs := [vi w.1.1, vi w.1.2.1, vi w.2.1.1, vi w.2.1.2.1]) (cs' := [vi w.1.1, vi w.1.2.1, vi w.2.1.1, vi w.2.1.2.1]) (v := .agg [vi w.1.1, vi w.1.2.1, vi w.2.1.1, vi w.2.1.2.1]) (On.at hs3 2 rfl) (by kernel_rfl) (by kernel_rfl) (by kernel_rfl) (by kernel_rfl)) (And.intro (ob_load_ptr (P := pg) (A := an) (H := H2) (t := 24) (ty := 0) (id := p) (off := 0) (n := 2) (cs := [vi a.1, vi a.2.1]) (cs' := [vi a.1, vi a.2.1]) (v := .agg [vi a.1, vi a.2.1]) (On.at hs3 1 rfl) (by kernel_rfl) (by kernel_rfl) (by kernel_rfl) (by kernel_rfl)) (And.intro (ob_load_ptr (P := pg) (A := an) (H := H2) (t := 24) (ty := 0) (id := p) (off := 0) (n := 2) (cs := [vi a.1, vi a.2.1]) (cs' := [vi a.1, vi a.2.1]) (v := .agg [vi a.1, vi a.2.1]) (On.at hs3 1 rfl) (by kernel_rfl) (by kernel_rfl) (by kernel_rfl) (by kernel_rfl)) (And.intro (ob_neq_agg (P := pg) (A := an) (H := H2) (s := PR) (t := 72) (u := 72) (ty := 0) (x := w) (y := (a, (a, ()))) (r := true) (by kernel_rfl) c5) trivial))))))) (by kernel_rfl)) (by kernel_rfl) ?_
   refine wE ?_
   refine ⟨Or.inr rfl, [.one (vb true)], (by kernel_rfl), ?_⟩
   exact ⟨congrArg (fun z => [Y.one (vb z)]) (show true = q35 a w by unfold q35; simp [c4, c5]), (On.pick [0, 1] [2] (by kernel_rfl) hs3)⟩
 ·
  refine rSq [(1, .y (.agg [vi w.2.1.1, vi w.2.1.2.1]), H2), (2, .y (.agg [vi a.1, vi a.2.1]), H2), (3, xb false, H2)] [(3, xb false)] H2
    (cast (And.intro (ob_load_ptr (P := pg) (A := an) (H := H2) (t := 24) (ty := 0) (id := n1) (off := 2) (n := 2) (cs := [vi w.1.1, vi w.1.2.1, vi w.2.1.1, vi w.2.1.2.1]) (cs' := [vi w.2.1.1, vi w.2.1.2.1]) (v := .agg [vi w.2.1.1, vi w.2.1.2.1]) (On.at hs3 2 rfl) (by kernel_rfl) (by kernel_rfl) (by kernel_rfl) (by kernel_rfl)) (And.intro (ob_load_ptr (P := pg) (A := an) (H := H2) (t := 24) (ty := 0) (id := p) (off := 0) (n := 2) (cs := [vi a.1, vi a.2.1]) (cs' := [vi a.1, vi a.2.1]) (v := .agg [vi a.1, vi a.2.1]) (On.at hs3 1 rfl) (by kernel_rfl) (by kernel_rfl) (by kernel_rfl) (by kernel_rfl)) (And.intro (ob_eq_agg (P := pg) (A := an) (H := H2) (s := PD) (t := 24) (u := 24) (ty := 0) (x := w.2.1) (y := a) (r := false) (by kernel_rfl) c4) trivial))) (by kernel_rfl)) (by kernel_rfl) ?_
  refine wE ?_
  refine ⟨Or.inr rfl, [.one (vb false)], (by kernel_rfl), ?_⟩
  exact ⟨congrArg (fun z => [Y.one (vb z)]) (show false = q35 a w by unfold q35; simp [c4]), (On.pick [0, 1] [2] (by kernel_rfl) hs3)⟩
theorem cl36 (R : HP) (H : Go.Lg.Heap) (p : Nat) (a : PD.T) (w : PR.T) (hs : On [R, pts p (.obj [vi a.1, vi a.2.1])] H) : ∃ rs H', Runs pg an 36 [.agg [vi w.1.1, vi w.1.2.1, vi w.2.1.1, vi w.2.1.2.1], .one (.ptr p 0)] H rs H' ∧ rs = [.one (vb (q36 a w))] ∧ On [R, pts p (.obj [vi a.1, vi a.2.1])] H' := by
 refine Runs.of (fn := Try.f36) Try.func36 rfl (by kernel_rfl) [(0, .y (.agg [vi w.1.1, vi w.1.2.1, vi w.2.1.1, vi w.2.1.2.1])), (1, .y (.one (.ptr p 0)))] (by kernel_rfl) ?_
 obtain ⟨n1, hn1⟩ : ∃ n, n = List.length (H : Go.Lg.Heap) := ⟨_, rfl⟩
 refine rSq [(0, .y (.one (.ptr n1 0)), (H ++ [.obj [vi w.1.1, vi w.1.2.1, vi w.2.1.1, vi w.2.1.2.1]]))] [(1, .y (.one (.ptr p 0))), (2, .y (.one (.ptr n1 0)))] (H ++ [.obj [vi w.1.1, vi w.1.2.1, vi w.2.1.1, vi w.2.1.2.1]])
   (cast (And.intro (ob_box (P := pg) (A := an) (H := H) (t := 72) (ty := 0) (n := n1) (v := .agg [vi w.1.1, vi w.1.2.1, vi w.2.1.1, vi w.2.1.2.1]) (cs := [vi w.1.1, vi w.1.2.1, vi w.2.1.1, vi w.2.1.2.1]) hn1 (by kernel_rfl) (by kernel_rfl) (by kernel_rfl)) trivial) (by kernel_rfl)) (by kernel_rfl) ?_
 refine wG (cs := [R, pts p (.obj [vi a.1, vi a.2.1]), pts n1 (.obj [vi w.1.1, vi w.1.2.1, vi w.2.1.1, vi w.2.1.2.1])]) (On.new' hn1 (.obj [vi w.1.1, vi w.1.2.1, vi w.2.1.1, vi w.2.1.2.1]) hs) ?_
 intro H2 hs3
 rcases Bool.eq_false_or_eq_true ((eqb PD w.1 a)) with c4 | c4
 ·
  refine rSq [(1, .y (.agg [vi w.1.1, vi w.1.2.1]), H2), (2, .y (.agg [vi a.1, vi a.2.1]), H2), (3, xb true, H2)] [(3, xb true)] H2
    (cast (And.intro (ob_load_ptr (P := pg) (A := an) (H := H2) (t := 24) (ty := 0) (id := n1) (off := 0) (n := 2) (cs := [vi w.1.1, vi w.1.2.1, vi w.2.1.1, vi w.2.1.2.1]) (cs' := [vi w.1.1, vi w.1.2.1]) (v := .agg [vi w.1.1, vi w.1.2.1]) (On.at hs3 2 rfl) (by kernel_rfl) (by kernel_rfl) (by kernel_rfl) (by kernel_rfl)) (And.intro (ob_load_ptr (P := pg) (A := an) (H := H2) (t := 24) (ty := 0) (id := p) (off := 0) (n := 2) (cs := [vi a.1, vi a.2.1]) (cs' := [vi a.1, vi a.2.1]) (v := .agg [vi a.1, vi a.2.1]) (On.at hs3 1 rfl) (by kernel_rfl) (by kernel_rfl) (by kernel_rfl) (by kernel_rfl)) (And.intro (ob_eq_agg (P := pg) (A := an) (H := H2) (s := PD) (t := 24) (u := 24) (ty := 0) (x := w.1) (y := a) (r := true) (by kernel_rfl) c4) trivial))) (by kernel_rfl)) (by kernel_rfl) ?_
  refine wE ?_
  refine ⟨Or.inr rfl, [.one (vb true)], (by kernel_rfl), ?_⟩
  exact ⟨congrArg (fun z => [Y.one (vb z)]) (show true = q36 a w by unfold q36; simp [c4]), (On.pick [0, 1] [2] (by kernel_rfl) hs3)⟩
 ·
  rcases Bool.eq_false_or_eq_true ((eqb PD w.2.1 a)) with c5 | c5
  ·
   refine rSq [(1, .y (.agg [vi w.1.1, vi w.1.2.1]), H2), (2, .y (.agg [vi a.1, vi a.2.1]), H2), (3, xb false, H2), (6, .y (.agg [vi w.2.1.1, vi w.2.1.2.1]), H2), (7, .y (.agg [vi a.1, vi a.2.1]), H2), (8, xb true, H2)] [(3, xb true)] H2
     (cast (And.intro (ob_load_ptr (P := pg) (A := an) (H := H2) (t := 24) (ty := 0) (id := n1) (off := 0) (n := 2) (cs := [vi w.1.1, vi w.1.2.1, vi w.2.1.1, vi w.2.1.2.1]) (cs' := [vi w.1.1, vi w.1.2.1]) (v := .agg [vi w.1.1, vi w.1.2.1]) (On.at hs3 2 rfl) (by kernel_rfl) (by kernel_rfl) (by kernel_rfl) (by kernel_rfl)) (And.intro (ob_load_ptr (P := pg) (A := an) (H := H2) (t := 24) (ty := 0) (id := p) (off := 0) (n := 2) (cs := [vi a.1, vi a.2.1]) (cs' := [vi a.1, vi a.2.1]) (v := .agg [vi a.1, vi a.2.1]) (On.at hs3 1 rfl) (by kernel_rfl) (by kernel_rfl) (by kernel_rfl) (by kernel_rfl)) (And.intro (ob_eq_agg (P := pg) (A := an) (H := H2) (s := PD) (t := 24) (u := 24) (ty := 0) (x := w.1) (y := a) (r := false) (by kernel_rfl) c4) (And.intro (ob_load_ptr (P := pg) (A := an) (H := H2) (t := 24) (ty := 0) (id := n1) (off := 2) (n := 2) (cs := [vi w.1.1, vi w.1.2.1, vi w.2.1.1, vi w.2.1.2.1]) (cs' := [vi w.2.1.1, vi w.2.1.2.1]) (v := .agg [vi w.2.1.1, vi w.2.1.2.1]) (On.at hs3 2 rfl) (by kernel_rfl) (by kernel_rfl) (by kernel_rfl) (by kernel_rfl)) (And.intro (ob_load_ptr (P := pg) (A := an) (H := H2) (t := 24) (ty := 0) (id := p) (off := 0) (n := 2) (cs := [vi a.1, vi a.2.1]) (cs' := [vi a.1, vi a.2.1]) (v := .agg [vi a.1, vi a.2.1]) (On.at hs3 1 rfl) (by kernel_rfl) (by kernel_rfl) (by kernel_rfl) (by kernel_rfl)) (And.intro (ob_eq_agg (P := pg) (A := an) (H := H2) (s := PD) (t := 24) (u := 24) (ty := 0) (x := w.2.1) (y := a) (r := true) (by kernel_rfl) c5) trivial)))))) (by kernel_rfl)) (by kernel_rfl) ?_
   refine wE ?_
   refine ⟨Or.inr rfl, [.one (vb true)], (by kernel_rfl), ?_⟩
   exact ⟨congrArg (fun z => [Y.one (vb z)]) (show true = q36 a w by unfold q36; simp [c4, c5]), (On.pick [0, 1] [2] (by kernel_rfl) hs3)⟩
  ·
   refine rSq [(1, .y (.agg [vi w.1.1, vi w.1.2.1]), H2), (2, .y (.agg [vi a.1, vi a.2.1]), H2), (3, xb false, H2), (6, .y (.agg [vi w.2.1.1, vi w.2.1.2.1]), H2), (7, .y (.agg [vi a.1, vi a.2.1]), H2), (8, xb false, H2)] [(3, xb false)] H2
     (cast (And.intro (ob_load_ptr (P := pg) (A := an) (H := H2) (t := 24) (ty := 0) (id := n1) (off := 0) (n := 2) (cs := [vi w.1.1, vi w.1.2.1, vi w.2.1.1, vi w.2.1.2.1]) (cs' := [vi w.1.1, vi w.1.2.1]) (v := .agg [vi w.1.1, vi w.1.2.1]) (On.at hs3 2 rfl) (by kernel_rfl) (by kernel_rfl) (by kernel_rfl) (by kernel_rfl)) (And.intro (ob_load_ptr (P := pg) (A := an) (H := H2) (t := 24) (ty := 0) (id := p) (off := 0) (n := 2) (cs := [vi a.1, vi a.2.1]) (cs' := [vi a.1, vi a.2.1]) (v := .agg [vi a.1, vi a.2.1]) (On.at hs3 1 rfl) (by kernel_rfl) (by kernel_rfl) (by kernel_rfl) (by kernel_rfl)) (And.intro (ob_eq_agg (P := pg) (A := an) (H := H2) (s := PD) (t := 24) (u := 24) (ty := 0) (x := w.1) (y := a) (r := false) (by kernel_rfl) c4) (And.intro (ob_load_ptr (P := pg) (A := an) (H := H2) (t := 24) (ty := 0) (id := n1) (off := 2) (n := 2) (cs := [vi w.1.1, vi w.1.2.1, vi w.2.1.1, vi w.2.1.2.1]) (cs' := [vi w.2.1.1, vi w.2.1.2.1]) (v := .agg [vi w.2.1.1, vi w.2.1.2.1]) (On.at hs3 2 rfl) (by kernel_rfl) (by kernel_rfl) (by kernel_rfl) (by kernel_rfl)) (And.intro (ob_load_ptr (P := pg) (A := an) (H := H2) (t := 24) (ty := 0) (id := p) (off := 0) (n := 2) (cs := [vi a.1, vi a.2.1]) (cs' := [vi a.1, vi a.2.1]) (v := .agg [vi a.1, vi a.2.1]) (On.at hs3 1 rfl) (by kernel_rfl) (by kernel_rfl) (by kernel_rfl) (by kernel_rfl)) (And.intro (ob_eq_agg (P := pg) (A := an) (H := H2) (s := PD) (t := 24) (u := 24) (ty := 0) (x := w.2.1) (y := a) (r := false) (by kernel_rfl) c5) trivial)))))) (by kernel_rfl)) (by kernel_rfl) ?_
   refine wE ?_
   refine ⟨Or.inr rfl, [.one (vb false)], (by kernel_rfl), ?_⟩
   exact ⟨congrArg (fun z => [Y.one (vb z)]) (show false = q36 a w by unfold q36; simp [c4, c5]), (On.pick [0, 1] [2] (by kernel_rfl) hs3)⟩
theorem cl37 (R : HP) (H : Go.Lg.Heap) (p : Nat) (a : PD.T) (w : PR.T) (hs : On [R, pts p (.obj [vi a.1, vi a.2.1])] H) : ∃ rs H', Runs pg an 37 [.agg [vi w.1.1, vi w.1.2.1, vi w.2.1.1, vi w.2.1.2.1], .one (.ptr p 0)] H rs H' ∧ rs = [.one (vb (q37 a w))] ∧ On [R, pts p (.obj [vi a.1, vi a.2.1])] H' := by
 refine Runs.of (fn := Try.f37) Try.func37 rfl (by kernel_rfl) [(0, .y (.agg [vi w.1.1, vi w.1.2.1, vi w.2.1.1, vi w.2.1.2.1])), (1, .y (.one (.ptr p 0)))] (by kernel_rfl) ?_
 obtain ⟨n1, hn1⟩ : ∃ n, n = List.length (H : Go.Lg.Heap) := ⟨_, rfl⟩
 refine rSq [(0, .y (.one (.ptr n1 0)), (H ++ [.obj [vi w.1.1, vi w.1.2.1, vi w.2.1.1, vi w.2.1.2.1]]))] [(1, .y (.one (.ptr p 0))), (2, .y (.one (.ptr n1 0)))] (H ++ [.obj [vi w.1.1, vi w.1.2.1, vi w.2.1.1, vi w.2.1.2.1]])
   (cast (And.intro (ob_box (P := pg) (A := an) (H := H) (t := 72) (ty := 0) (n := n1) (v := .agg [vi w.1.1, vi w.1.2.1, vi w.2.1.1, vi w.2.1.2.1]) (cs := [vi w.1.1, vi w.1.2.1, vi w.2.1.1, vi w.2.1.2.1]) hn1 (by kernel_rfl) (by kernel_rfl) (by kernel_rfl)) trivial) (by kernel_rfl)) (by kernel_rfl) ?_
 refine wG (cs := [R, pts p (.obj [vi a.1, vi a.2.1]), pts n1 (.obj [vi w.1.1, vi w.1.2.1, vi w.2.1.1, vi w.2.1.2.1])]) (On.new' hn1 (.obj [vi w.1.1, vi w.1.2.1, vi w.2.1.1, vi w.2.1.2.1]) hs) ?_
 intro H2 hs3
 rcases Bool.eq_false_or_eq_true ((eqb PD w.2.1 a)) with c4 | c4
 ·
  refine rSq [(1, .y (.agg [vi w.2.1.1, vi w.2.1.2.1]), H2), (2, .y (.agg [vi a.1, vi a.2.1]), H2), (3, xb true, H2)] [(3, xb true)] H2
    (cast (And.intro (ob_load_ptr (P := pg) (A := an) (H := H2) (t := 24) (ty := 0) (id := n1) (off := 2) (n := 2) (cs := [vi w.1.1, vi w.1.2.1, vi w.2.1.1, vi w.2.1.2.1]) (cs' := [vi w.2.1.1, vi w.2.1.2.1]) (v := .agg [vi w.2.1.1, vi w.2.1.2.1]) (On.at hs3 2 rfl) (by kernel_rfl) (by kernel_rfl) (by kernel_rfl) (by kernel_rfl)) (And.intro (ob_load_ptr (P := pg) (A := an) (H := H2) (t := 24) (ty := 0) (id := p) (off := 0) (n := 2) (cs := [vi a.1, vi a.2.1]) (cs' := [vi a.1, vi a.2.1]) (v := .agg [vi a.1, vi a.2.1]) (On.at hs3 1 rfl) (by kernel_rfl) (by kernel_rfl) (by kernel_rfl) (by kernel_rfl)) (And.intro (ob_eq_agg (P := pg) (A := an) (H := H2) (s := PD) (t := 24) (u := 24) (ty := 0) (x := w.2.1) (y := a) (r := true) (by kernel_rfl) c4) trivial))) (by kernel_rfl)) (by kernel_rfl) ?_
  refine wE ?_
  refine ⟨Or.inr rfl, [.one (vb true)], (by kernel_rfl), ?_⟩
  exact ⟨congrArg (fun z => [Y.one (vb z)]) (show true = q37 a w by unfold q37; simp [c4]), (On.pick [0, 1] [2] (by kernel_rfl) hs3)⟩
 ·
  refine rSq [(1, .y (.agg [vi w.2.1.1, vi w.2.1.2.1]), H2), (2, .y (.agg [vi a.1, vi a.2.1]), H2), (3, xb false, H2)] [(3, xb false)] H2
    (cast (And.intro (ob_load_ptr (P := pg) (A := an) (H := H2) (t := 24) (ty := 0) (id := n1) (off := 2) (n := 2) (cs := [vi w.1.1, vi w.1.2.1, vi w.2.1.1, vi w.2.1.2.1]) (cs' := [vi w.2.1.1, vi w.2.1.2.1]) (v := .agg [vi w.2.1.1, vi w.2.1.2.1]) (On.at hs3 2 rfl) (by kernel_rfl) (by kernel_rfl) (by kernel_rfl) (by kernel_rfl)) (And.intro (ob_load_ptr (P := pg) (A := an) (H := H2) (t := 24) (ty := 0) (id := p) (off := 0) (n := 2) (cs := [vi a.1, vi a.2.1]) (cs' := [vi a.1, vi a.2.1]) (v := .agg [vi a.1, vi a.2.1]) (On.at hs3 1 rfl) (by kernel_rfl) (by kernel_rfl) (by kernel_rfl) (by kernel_rfl)) (And.intro (ob_eq_agg (P := pg) (A := an) (H := H2) (s := PD) (t := 24) (u := 24) (ty := 0) (x := w.2.1) (y := a) (r := false) (by kernel_rfl) c4) trivial))) (by kernel_rfl)) (by kernel_rfl) ?_
  refine wE ?_
  refine ⟨Or.inr rfl, [.one (vb false)], (by kernel_rfl), ?_⟩
  exact ⟨congrArg (fun z => [Y.one (vb z)]) (show false = q37 a w by unfold q37; simp [c4]), (On.pick [0, 1] [2] (by kernel_rfl) hs3)⟩
theorem cl40 (R : HP) (H : Go.Lg.Heap) (w : PR.T) (hs : On [R] H) : ∃ rs H', Runs pg an 40 [.agg [vi w.1.1, vi w.1.2.1, vi w.2.1.1, vi w.2.1.2.1]] H rs H' ∧ rs = [.one (vb (q40 w))] ∧ On [R] H' := by
 refine Runs.of (fn := Try.f40) Try.func40 rfl (by kernel_rfl) [(0, .y (.agg [vi w.1.1, vi w.1.2.1, vi w.2.1.1, vi w.2.1.2.1]))] (by kernel_rfl) ?_
 obtain ⟨n1, hn1⟩ : ∃ n, n = List.length (H : Go.Lg.Heap) := ⟨_, rfl⟩
 refine rSq [(0, .y (.one (.ptr n1 0)), (H ++ [.obj [vi w.1.1, vi w.1.2.1, vi w.2.1.1, vi w.2.1.2.1]]))] [] (H ++ [.obj [vi w.1.1, vi w.1.2.1, vi w.2.1.1, vi w.2.1.2.1]])
   (cast (And.intro (ob_box (P := pg) (A := an) (H := H) (t := 72) (ty := 0) (n := n1) (v := .agg [vi w.1.1, vi w.1.2.1, vi w.2.1.1, vi w.2.1.2.1]) (cs := [vi w.1.1, vi w.1.2.1, vi w.2.1.1, vi w.2.1.2.1]) hn1 (by kernel_rfl) (by kernel_rfl) (by kernel_rfl)) trivial) (by kernel_rfl)) (by kernel_rfl) ?_
 refine wG (cs := [R, pts n1 (.obj [vi w.1.1, vi w.1.2.1, vi w.2.1.1, vi w.2.1.2.1])]) (On.new' hn1 (.obj [vi w.1.1, vi w.1.2.1, vi w.2.1.1, vi w.2.1.2.1]) hs) ?_
 intro H2 hs3
 refine rSq [] [(2, xb true)] H2
   (cast trivial (by kernel_rfl)) (by kernel_rfl) ?_
 refine wE ?_
 refine ⟨Or.inr rfl, [.one (vb true)], (by kernel_rfl), ?_⟩
 exact ⟨rfl, (On.pick [0] [1] (by kernel_rfl) hs3)⟩
theorem refs_35 (R : HP) (H : Go.Lg.Heap) (tt l mo ck : Nat) (es : Array MapEntry) (M : List TI.T) (p : Nat) (a : PD.T) (hs : On [R, pts tt (.obj [.mp l, .mp mo]), pts mo (mapO es ck), pts p (.obj [vi a.1, vi a.2.1])] H) (hB : BagOk (M.map enM) es ck) (hn : M.length ≤ 3518437208883) : XWp pg an 34 (Try.f34.body.getD .skip) [(0, .y (.one (.ptr tt 0))), (1, .y (.one (.fn (.func 35) [] [.ptr p 0])))] H fun x e9 H9 => (x = .normal ∨ x = .ret) ∧ ∃ ys, (∀ H8, Try.f34.results.toList.mapM (resX pg e9 H8) = some ys) ∧ ∃ c, ys = [.one c] ∧ On [R, pts tt (.obj [.mp l, .mp mo]), pts mo (mapO es ck), pts p (.obj [vi a.1, vi a.2.1]), ownP NI c (isort ltI (refOf (q35 a) M))] H9 := by
 unfold Try.f34
 show XWp _ _ _ _ [(0, .y (.one (.ptr tt 0))), (1, .y (.one (.fn (.func 35) [] [.ptr p 0])))] H _
 refine XWp.regionSeq [] [(0, .y (.one (.ptr tt 0))), (1, .y (.one (.fn (.func 35) [] [.ptr p 0])))] H
   (cast trivial (by kernel_rfl)) (by kernel_rfl) ?_
 refine XWp.regionSeq [] [(0, .y (.one (.ptr tt 0))), (1, .y (.one (.fn (.func 35) [] [.ptr p 0]))), (5, .y (.one (.sl false true true [] 0)))] H
   (cast trivial (by kernel_rfl)) (by kernel_rfl) ?_
 refine XWp.seq ?_
 obtain ⟨n1, hn1⟩ : ∃ n, n = List.length (H : Go.Lg.Heap) := ⟨_, rfl⟩
 refine XWp.regionSeq [(3, .y (.one (.mp mo)), H), (4, .y (.one (.it n1)), (H ++ [iterO mo ck #[]]))] [(1, .y (.one (.fn (.func 35) [] [.ptr p 0]))), (5, .y (.one (.sl false true true [] 0))), (12, .y (.one (.it n1)))] (H ++ [iterO mo ck #[]])
   (cast (And.intro (ob_load_ptr (P := pg) (A := an) (H := H) (t := 59) (ty := 0) (id := tt) (off := 1) (n := 1) (cs := [.mp l, .mp mo]) (cs' := [.mp mo]) (v := .one (.mp mo)) (On.at hs 1 rfl) (by kernel_rfl) (by kernel_rfl) (by kernel_rfl) (by kernel_rfl)) (And.intro (ob_range (P := pg) (A := an) (H := H) (t := 59) (ty := 0) (m := mo) (n := n1) (ck := ck) (es := es) hn1 (by kernel_rfl) (On.at hs 2 rfl)) trivial)) (by kernel_rfl)) (by kernel_rfl) ?_
 refine XWp.gen (cs := [R, pts tt (.obj [.mp l, .mp mo]), pts mo (mapO es ck), pts p (.obj [vi a.1, vi a.2.1]), pts n1 (iterO mo ck #[])]) (On.new' hn1 (iterO mo ck #[]) hs) ?_
 intro H2 hs3
 refine XWp.block ?_
 have hs4 : On [R, pts tt (.obj [.mp l, .mp mo]), pts mo (mapO es ck), pts p (.obj [vi a.1, vi a.2.1]), pts n1 (iterO mo ck #[]), ownP NI (.sl false true true [] 0) (refOf (q35 a) ([] : List TI.T))] H2 := On.shut (cs := [R, pts tt (.obj [.mp l, .mp mo]), pts mo (mapO es ck), pts p (.obj [vi a.1, vi a.2.1]), pts n1 (iterO mo ck #[])]) [] [0, 1, 2, 3, 4] (by kernel_rfl) (fun _ _ => by rw [show (refOf (q35 a) ([] : List TI.T)) = ([] : List Int) from rfl]; exact .inl ⟨rfl, rfl⟩) hs3
 refine XWp.loop (T := Go.Lg.Heap × Nat × Array Nat × List TI.T × C) (fun (t : Go.Lg.Heap × Nat × Array Nat × List TI.T × C) => match t with | (H6, it, seen, D, cv) => (M.length - D.length : Nat)) (fun (t : Go.Lg.Heap × Nat × Array Nat × List TI.T × C) => match t with | (H6, it, seen, D, cv) => ([(1, .y (.one (.fn (.func 35) [] [.ptr p 0]))), (5, .y (.one (cv))), (12, .y (.one (.it it)))] : Env)) (fun (t : Go.Lg.Heap × Nat × Array Nat × List TI.T × C) => match t with | (H6, it, seen, D, cv) => (H6 : Go.Lg.Heap))
   (fun (t : Go.Lg.Heap × Nat × Array Nat × List TI.T × C) => match t with | (H6, it, seen, D, cv) => (On [R, pts tt (.obj [.mp l, .mp mo]), pts mo (mapO es ck), pts p (.obj [vi a.1, vi a.2.1]), pts it (iterO mo ck seen), ownP NI cv (refOf (q35 a) D)] H6 ∧ (Went enM es seen D) : Prop)) (H2, n1, #[], [], (.sl false true true [] 0)) (by kernel_rfl) (⟨(On.pick [0, 1, 2, 3, 4, 5] [] (by kernel_rfl) hs4), went_nil _ _⟩) ?_
 rintro ⟨H6, it, seen, D, cv⟩ ⟨hs7, hW⟩
 show XWp _ _ _ _ [(1, .y (.one (.fn (.func 35) [] [.ptr p 0]))), (5, .y (.one (cv))), (12, .y (.one (.it it)))] H6 _
 refine XWp.nextE (L := M) (D := D) (eF := [(1, .y (.one (.fn (.func 35) [] [.ptr p 0]))), (5, .y (.one (cv))), (12, .y (.one (.it it))), (14, xb false)]) (eT := [(1, .y (.one (.fn (.func 35) [] [.ptr p 0]))), (5, .y (.one (cv))), (12, .y (.one (.it it))), (14, xb true)]) enM_inj ⟨rfl, rfl, rfl⟩ ⟨rfl, rfl, rfl⟩ rfl (On.at hs7 4 rfl) (On.at hs7 2 rfl) hB hW (by kernel_rfl) (fun _ _ => by kernel_rfl) ?_ ?_
 ·
  intro hp8
  refine XWp.seq ?_
  refine XWp.condF (by kernel_rfl) ?_
  refine XWp.exit ?_
  refine Eq.mpr (if_pos rfl) ?_
  obtain ⟨_, H9, hr10, rfl, hs11⟩ := sortI (A := an) rfl rfl _ (H6 : Go.Lg.Heap) (c := cv) (l := (refOf (q35 a) D)) (lenRs hn hp8 _) (On.call [5] [0, 1, 2, 3, 4] (by kernel_rfl) hs7)
  have hs11 : On [R, pts tt (.obj [.mp l, .mp mo]), pts mo (mapO es ck), pts p (.obj [vi a.1, vi a.2.1]), pts it (iterO mo ck seen), ownP NI cv (isort ltI (refOf (q35 a) D))] H9 := On.flat hs11
  refine XWp.regionSeq [(1, .tup [], H9)] [(5, .y (.one (cv)))] H9
    (cast (And.intro (ob_call (P := pg) (A := an) (H := H6) (g := 52) (vals := [.y (.one (cv))]) (xs0 := [.one (cv)]) (res := []) (ats := #[]) (ty := 0) (v := .tup []) (H' := H9) [.tmp 0] (by kernel_rfl) (by kernel_rfl) hr10 (by kernel_rfl)) trivial) (by kernel_rfl)) (by kernel_rfl) ?_
  refine XWp.gen (cs := [R, pts tt (.obj [.mp l, .mp mo]), pts mo (mapO es ck), pts p (.obj [vi a.1, vi a.2.1]), pts it (iterO mo ck seen), ownP NI cv (isort ltI (refOf (q35 a) D))]) hs11 ?_
  intro H12 hs13
  refine XWp.regionSeq [] [(4, .y (.one (cv)))] H12
    (cast trivial (by kernel_rfl)) (by kernel_rfl) ?_
  refine XWp.ret ?_
  refine ⟨Or.inr rfl, [.one (cv)], fun _ => by kernel_rfl, ?_⟩
  exact ⟨cv, rfl, by rw [← refsPerm hp8 (q35 a)]; exact (On.pick [0, 1, 2, 3, 5] [4] (by kernel_rfl) hs13)⟩
 ·
  intro x14 d15 hx16 hd17 he18 hw19 hl20
  refine XWp.gen (cs := [R, pts tt (.obj [.mp l, .mp mo]), pts mo (mapO es ck), pts p (.obj [vi a.1, vi a.2.1]), pts it (iterO mo ck (Array.push seen d15.born)), ownP NI cv (refOf (q35 a) D)]) (On.put (iterO mo ck (Array.push seen d15.born)) hs7 4 rfl) ?_
  intro H21 hs22
  have hL23 : ((refOf (q35 a) D).length : Int) ≤ D.length := lenRd _ _
  refine XWp.seq ?_
  refine XWp.condT (by kernel_rfl) ?_
  refine XWp.skip ?_
  refine XWp.block ?_
  obtain ⟨n24, hn24⟩ : ∃ n, n = List.length (H21 : Go.Lg.Heap) := ⟨_, rfl⟩
  refine XWp.regionSeq [(0, .tup [.one (vi x14.1), .agg [vi x14.2.1.1, vi x14.2.1.2.1, vi x14.2.2.1.1, vi x14.2.2.1.2.1]], H21), (3, .y (.one (.ptr n24 0)), (H21 ++ [.obj [vi 0, vi 0, vi 0, vi 0]])), (5, .tup [], (List.set (α := O) (H21 ++ [.obj [vi 0, vi 0, vi 0, vi 0]]) n24 (.obj [vi x14.2.1.1, vi x14.2.1.2.1, vi x14.2.2.1.1, vi x14.2.2.1.2.1])))] [(1, .y (.one (.fn (.func 35) [] [.ptr p 0]))), (5, .y (.one (cv))), (6, xi x14.1), (7, .y (.one (.ptr n24 0))), (12, .y (.one (.it it)))] (List.set (α := O) (H21 ++ [.obj [vi 0, vi 0, vi 0, vi 0]]) n24 (.obj [vi x14.2.1.1, vi x14.2.1.2.1, vi x14.2.2.1.1, vi x14.2.2.1.2.1]))
    (cast (And.intro (ob_entry (P := pg) (A := an) (H := H21) (ty := 0) (it := it) (k := .one (vi x14.1)) (v := .agg [vi x14.2.1.1, vi x14.2.1.2.1, vi x14.2.2.1.1, vi x14.2.2.1.2.1]) (On.at hs22 4 rfl) (On.at hs22 2 rfl) hB.2.1 hd17 (by rw [← (Prod.mk.inj he18).1]; rfl) (by rw [← (Prod.mk.inj he18).2]; exact ofV_PR x14.2)) (And.intro (ob_alloc (P := pg) (A := an) (H := H21) (t := 72) (ty := 0) (n := n24) (cs := [vi 0, vi 0, vi 0, vi 0]) hn24 (by kernel_rfl)) (And.intro (ob_store_ptr (P := pg) (A := an) (H := (H21 ++ [.obj [vi 0, vi 0, vi 0, vi 0]])) (t := 72) (ty := 0) (id := n24) (off := 0) (cs := [vi 0, vi 0, vi 0, vi 0]) (cs' := [vi x14.2.1.1, vi x14.2.1.2.1, vi x14.2.2.1.1, vi x14.2.2.1.2.1]) (v := .agg [vi x14.2.1.1, vi x14.2.1.2.1, vi x14.2.2.1.1, vi x14.2.2.1.2.1]) (On.at (On.new' hn24 (.obj [vi 0, vi 0, vi 0, vi 0]) hs22) 6 rfl) (by kernel_rfl) (by kernel_rfl) (by kernel_rfl)) trivial))) (by kernel_rfl)) (by kernel_rfl) ?_
  refine XWp.gen (cs := [R, pts tt (.obj [.mp l, .mp mo]), pts mo (mapO es ck), pts p (.obj [vi a.1, vi a.2.1]), pts it (iterO mo ck (Array.push seen d15.born)), ownP NI cv (refOf (q35 a) D), pts n24 (.obj [vi x14.2.1.1, vi x14.2.1.2.1, vi x14.2.2.1.1, vi x14.2.2.1.2.1])]) (On.put (.obj [vi x14.2.1.1, vi x14.2.1.2.1, vi x14.2.2.1.1, vi x14.2.2.1.2.1]) (On.new' hn24 (.obj [vi 0, vi 0, vi 0, vi 0]) hs22) 6 rfl) ?_
  intro H25 hs26
  rcases Bool.eq_false_or_eq_true ((q35 a x14.2)) with c27 | c27
  ·
   obtain ⟨_, H28, hr29, rfl, hs30⟩ := cl35 _ (H25 : Go.Lg.Heap) p a x14.2 (On.call [3] [0, 1, 2, 4, 5, 6] (by kernel_rfl) hs26)
   have hs30 : On [R, pts tt (.obj [.mp l, .mp mo]), pts mo (mapO es ck), pts it (iterO mo ck (Array.push seen d15.born)), ownP NI cv (refOf (q35 a) D), pts n24 (.obj [vi x14.2.1.1, vi x14.2.1.2.1, vi x14.2.2.1.1, vi x14.2.2.1.2.1]), pts p (.obj [vi a.1, vi a.2.1])] H28 := On.flat hs30
   rw [c27] at hr29
   refine XWp.regionSeq [(1, .y (.agg [vi x14.2.1.1, vi x14.2.1.2.1, vi x14.2.2.1.1, vi x14.2.2.1.2.1]), H25), (2, xb true, H28)] [(1, .y (.one (.fn (.func 35) [] [.ptr p 0]))), (5, .y (.one (cv))), (6, xi x14.1), (12, .y (.one (.it it))), (20, xb true)] H28
     (cast (And.intro (ob_load_ptr (P := pg) (A := an) (H := H25) (t := 72) (ty := 0) (id := n24) (off := 0) (n := 4) (cs := [vi x14.2.1.1, vi x14.2.1.2.1, vi x14.2.2.1.1, vi x14.2.2.1.2.1]) (cs' := [vi x14.2.1.1, vi x14.2.1.2.1, vi x14.2.2.1.1, vi x14.2.2.1.2.1]) (v := .agg [vi x14.2.1.1, vi x14.2.1.2.1, vi x14.2.2.1.1, vi x14.2.2.1.2.1]) (On.at hs26 6 rfl) (by kernel_rfl) (by kernel_rfl) (by kernel_rfl) (by kernel_rfl)) (And.intro (ob_callv (P := pg) (A := an) (H := H25) (g := 35) (first := []) (cap := [.ptr p 0]) (vals := [.y (.agg [vi x14.2.1.1, vi x14.2.1.2.1, vi x14.2.2.1.1, vi x14.2.2.1.2.1])]) (xs0 := [.agg [vi x14.2.1.1, vi x14.2.1.2.1, vi x14.2.2.1.1, vi x14.2.2.1.2.1]]) (res := [.one (vb true)]) (ats := #[]) (ty := 0) (v := xb true) (H' := (H28 : Go.Lg.Heap)) [.tmp 1] (by kernel_rfl) (by kernel_rfl) (by exact hr29) (by kernel_rfl)) trivial)) (by kernel_rfl)) (by kernel_rfl) ?_
   refine XWp.gen (cs := [R, pts tt (.obj [.mp l, .mp mo]), pts mo (mapO es ck), pts it (iterO mo ck (Array.push seen d15.born)), ownP NI cv (refOf (q35 a) D), pts n24 (.obj [vi x14.2.1.1, vi x14.2.1.2.1, vi x14.2.2.1.1, vi x14.2.2.1.2.1]), pts p (.obj [vi a.1, vi a.2.1])]) hs30 ?_
   intro H31 hs32
   refine XWp.condT (by kernel_rfl) ?_
   obtain ⟨cv33, H34, ho35, hs36⟩ := or_append_own (P := pg) (A := an) (s := NI) (t := 75) (u := 75) (el := 3) (by_ := 8) (z := [vi 0]) (ty := 0) (y := .sl false false true [vi x14.1] 1) (lm := ([x14.1])) (m := 1) hs32 4 rfl ((slCells_slO (H := H31) (s := NI) (b := false) (nil := false) (capd := true) (l := [x14.1]) (n := 1) (by first | rfl | omega | (simp only [List.length_nil]; omega) | (simp; done) | (simp; omega)))) (by kernel_rfl) (by kernel_rfl) (by kernel_rfl) (by kernel_rfl) (by kernel_rfl) (by kernel_rfl) (by kernel_rfl) (by first | rfl | omega | (simp only [List.length_nil]; omega) | (simp; done) | (simp; omega)) (by omega) (by omega)
   have hs36l : (((refOf (q35 a) D) ++ ([x14.1])).length : Int) = (((refOf (q35 a) D).length : Int) + 1) := by { first | omega | (simp only [List.length_append]; omega) | (simp; done) | (simp; omega) }
   refine XWp.regionK [(3, .y (.one (cv33)), H34)] [(1, .y (.one (.fn (.func 35) [] [.ptr p 0]))), (5, .y (.one (cv33))), (12, .y (.one (.it it)))] H34
     (cast (And.intro ho35 trivial) (by kernel_rfl)) (by kernel_rfl) ?_
   refine wG (cs := [R, pts tt (.obj [.mp l, .mp mo]), pts mo (mapO es ck), pts it (iterO mo ck (Array.push seen d15.born)), pts n24 (.obj [vi x14.2.1.1, vi x14.2.1.2.1, vi x14.2.2.1.1, vi x14.2.2.1.2.1]), pts p (.obj [vi a.1, vi a.2.1]), ownP NI cv33 ((refOf (q35 a) D) ++ ([x14.1]))]) hs36 ?_
   intro H37 hs38
   refine wK ?_
   exact ⟨(H37, it, (Array.push seen d15.born), (D ++ [x14]), cv33), by kernel_rfl, (⟨(On.pick [0, 1, 2, 5, 3, 6] [4] (by kernel_rfl) (On.mono (A' := ownP NI cv33 (refOf (q35 a) (D ++ [x14]))) 6 rfl (fun _ x => by rw [← (show ((refOf (q35 a) D) ++ ([x14.1])) = (refOf (q35 a) (D ++ [x14])) from by rw [refOf_snoc]; simp only [c27, if_true, if_false, Bool.false_eq_true, List.append_nil])]; exact x) hs38)), hw19⟩), (by show (_ : Nat) < _; simp only [List.length_append, List.length_cons, List.length_nil]; omega)⟩
  ·
   obtain ⟨_, H39, hr40, rfl, hs41⟩ := cl35 _ (H25 : Go.Lg.Heap) p a x14.2 (On.call [3] [0, 1, 2, 4, 5, 6] (by kernel_rfl) hs26)
   have hs41 : On [R, pts tt (.obj [.mp l, .mp mo]), pts mo (mapO es ck), pts it (iterO mo ck (Array.push seen d15.born)), ownP NI cv (refOf (q35 a) D), pts n24 (.obj [vi x14.2.1.1, vi x14.2.1.2.1, vi x14.2.2.1.1, vi x14.2.2.1.2.1]), pts p (.obj [vi a.1, vi a.2.1])] H39 := On.flat hs41
   rw [c27] at hr40
   refine XWp.regionSeq [(1, .y (.agg [vi x14.2.1.1, vi x14.2.1.2.1, vi x14.2.2.1.1, vi x14.2.2.1.2.1]), H25), (2, xb false, H39)] [(1, .y (.one (.fn (.func 35) [] [.ptr p 0]))), (5, .y (.one (cv))), (6, xi x14.1), (12, .y (.one (.it it))), (20, xb false)] H39
     (cast (And.intro (ob_load_ptr (P := pg) (A := an) (H := H25) (t := 72) (ty := 0) (id := n24) (off := 0) (n := 4) (cs := [vi x14.2.1.1, vi x14.2.1.2.1, vi x14.2.2.1.1, vi x14.2.2.1.2.1]) (cs' := [vi x14.2.1.1, vi x14.2.1.2.1, vi x14.2.2.1.1, vi x14.2.2.1.2.1]) (v := .agg [vi x14.2.1.1, vi x14.2.1.2.1, vi x14.2.2.1.1, vi x14.2.2.1.2.1]) (On.at hs26 6 rfl) (by kernel_rfl) (by kernel_rfl) (by kernel_rfl) (by kernel_rfl)) (And.intro (ob_callv (P := pg) (A := an) (H := H25) (g := 35) (first := []) (cap := [.ptr p 0]) (vals := [.y (.agg [vi x14.2.1.1, vi x14.2.1.2.1, vi x14.2.2.1.1, vi x14.2.2.1.2.1])]) (xs0 := [.agg [vi x14.2.1.1, vi x14.2.1.2.1, vi x14.2.2.1.1, vi x14.2.2.1.2.1]]) (res := [.one (vb false)]) (ats := #[]) (ty := 0) (v := xb false) (H' := (H39 : Go.Lg.Heap)) [.tmp 1] (by kernel_rfl) (by kernel_rfl) (by exact hr40) (by kernel_rfl)) trivial)) (by kernel_rfl)) (by kernel_rfl) ?_
   refine XWp.gen (cs := [R, pts tt (.obj [.mp l, .mp mo]), pts mo (mapO es ck), pts it (iterO mo ck (Array.push seen d15.born)), ownP NI cv (refOf (q35 a) D), pts n24 (.obj [vi x14.2.1.1, vi x14.2.1.2.1, vi x14.2.2.1.1, vi x14.2.2.1.2.1]), pts p (.obj [vi a.1, vi a.2.1])]) hs41 ?_
   intro H42 hs43
   refine XWp.condF (by kernel_rfl) ?_
   refine XWp.skip ?_
   exact ⟨(H42, it, (Array.push seen d15.born), (D ++ [x14]), cv), by kernel_rfl, (⟨(On.pick [0, 1, 2, 6, 3, 4] [5] (by kernel_rfl) (On.mono (A' := ownP NI cv (refOf (q35 a) (D ++ [x14]))) 4 rfl (fun _ x => by rw [← (show (refOf (q35 a) D) = (refOf (q35 a) (D ++ [x14])) from by rw [refOf_snoc]; simp only [c27, if_true, if_false, Bool.false_eq_true, List.append_nil])]; exact x) hs43)), hw19⟩), (by show (_ : Nat) < _; simp only [List.length_append, List.length_cons, List.length_nil]; omega)⟩
theorem refs_36 (R : HP) (H : Go.Lg.Heap) (tt l mo ck : Nat) (es : Array MapEntry) (M : List TI.T) (p : Nat) (a : PD.T) (hs : On [R, pts tt (.obj [.mp l, .mp mo]), pts mo (mapO es ck), pts p (.obj [vi a.1, vi a.2.1])] H) (hB : BagOk (M.map enM) es ck) (hn : M.length ≤ 3518437208883) : XWp pg an 34 (Try.f34.body.getD .skip) [(0, .y (.one (.ptr tt 0))), (1, .y (.one (.fn (.func 36) [] [.ptr p 0])))] H fun x e9 H9 => (x = .normal ∨ x = .ret) ∧ ∃ ys, (∀ H8, Try.f34.results.toList.mapM (resX pg e9 H8) = some ys) ∧ ∃ c, ys = [.one c] ∧ On [R, pts tt (.obj [.mp l, .mp mo]), pts mo (mapO es ck), pts p (.obj [vi a.1, vi a.2.1]), ownP NI c (isort ltI (refOf (q36 a) M))] H9 := by
 unfold Try.f34
 show XWp _ _ _ _ [(0, .y (.one (.ptr tt 0))), (1, .y (.one (.fn (.func 36) [] [.ptr p 0])))] H _
 refine XWp.regionSeq [] [(0, .y (.one (.ptr tt 0))), (1, .y (.one (.fn (.func 36) [] [.ptr p 0])))] H
   (cast trivial (by kernel_rfl)) (by kernel_rfl) ?_
 refine XWp.regionSeq [] [(0, .y (.one (.ptr tt 0))), (1, .y (.one (.fn (.func 36) [] [.ptr p 0]))), (5, .y (.one (.sl false true true [] 0)))] H
   (cast trivial (by kernel_rfl)) (by kernel_rfl) ?_
 refine XWp.seq ?_
 obtain ⟨n1, hn1⟩ : ∃ n, n = List.length (H : Go.Lg.Heap) := ⟨_, rfl⟩
 refine XWp.regionSeq [(3, .y (.one (.mp mo)), H), (4, .y (.one (.it n1)), (H ++ [iterO mo ck #[]]))] [(1, .y (.one (.fn (.func 36) [] [.ptr p 0]))), (5, .y (.one (.sl false true true [] 0))), (12, .y (.one (.it n1)))] (H ++ [iterO mo ck #[]])
   (cast (And.intro (ob_load_ptr (P := pg) (A := an) (H := H) (t := 59) (ty := 0) (id := tt) (off := 1) (n := 1) (cs := [.mp l, .mp mo]) (cs' := [.mp mo]) (v := .one (.mp mo)) (On.at hs 1 rfl) (by kernel_rfl) (by kernel_rfl) (by kernel_rfl) (by kernel_rfl)) (And.intro (ob_range (P := pg) (A := an) (H := H) (t := 59) (ty := 0) (m := mo) (n := n1) (ck := ck) (es := es) hn1 (by kernel_rfl) (On.at hs 2 rfl)) trivial)) (by kernel_rfl)) (by kernel_rfl) ?_
 refine XWp.gen (cs := [R, pts tt (.obj [.mp l, .mp mo]), pts mo (mapO es ck), pts p (.obj [vi a.1, vi a.2.1]), pts n1 (iterO mo ck #[])]) (On.new' hn1 (iterO mo ck #[]) hs) ?_
 intro H2 hs3
 refine XWp.block ?_
 have hs4 : On [R, pts tt (.obj [.mp l, .mp mo]), pts mo (mapO es ck), pts p (.obj [vi a.1, vi a.2.1]), pts n1 (iterO mo ck #[]), ownP NI (.sl false true true [] 0) (refOf (q36 a) ([] : List TI.T))] H2 := On.shut (cs := [R, pts tt (.obj [.mp l, .mp mo]), pts mo (mapO es ck), pts p (.obj [vi a.1, vi a.2.1]), pts n1 (iterO mo ck #[])]) [] [0, 1, 2, 3, 4] (by kernel_rfl) (fun _ _ => by rw [show (refOf (q36 a) ([] : List TI.T)) = ([] : List Int) from rfl]; exact .inl ⟨rfl, rfl⟩) hs3
 refine XWp.loop (T := Go.Lg.Heap × Nat × Array Nat × List TI.T × C) (fun (t : Go.Lg.Heap × Nat × Array Nat × List TI.T × C) => match t with | (H6, it, seen, D, cv) => (M.length - D.length : Nat)) (fun (t : Go.Lg.Heap × Nat × Array Nat × List TI.T × C) => match t with | (H6, it, seen, D, cv) => ([(1, .y (.one (.fn (.func 36) [] [.ptr p 0]))), (5, .y (.one (cv))), (12, .y (.one (.it it)))] : Env)) (fun (t : Go.Lg.Heap × Nat × Array Nat × List TI.T × C) => match t with | (H6, it, seen, D, cv) => (H6 : Go.Lg.Heap))
   (fun (t : Go.Lg.Heap × Nat × Array Nat × List TI.T × C) => match t with | (H6, it, seen, D, cv) => (On [R, pts tt (.obj [.mp l, .mp mo]), pts mo (mapO es ck), pts p (.obj [vi a.1, vi a.2.1]), pts it (iterO mo ck seen), ownP NI cv (refOf (q36 a) D)] H6 ∧ (Went enM es seen D) : Prop)) (H2, n1, #[], [], (.sl false true true [] 0)) (by kernel_rfl) (⟨(On.pick [0, 1, 2, 3, 4, 5] [] (by kernel_rfl) hs4), went_nil _ _⟩) ?_
 rintro ⟨H6, it, seen, D, cv⟩ ⟨hs7, hW⟩
 show XWp _ _ _ _ [(1, .y (.one (.fn (.func 36) [] [.ptr p 0]))), (5, .y (.one (cv))), (12, .y (.one (.it it)))] H6 _
 refine XWp.nextE (L := M) (D := D) (eF := [(1, .y (.one (.fn (.func 36) [] [.ptr p 0]))), (5, .y (.one (cv))), (12, .y (.one (.it it))), (14, xb false)]) (eT := [(1, .y (.one (.fn (.func 36) [] [.ptr p 0]))), (5, .y (.one (cv))), (12, .y (.one (.it it))), (14, xb true)]) enM_inj ⟨rfl, rfl, rfl⟩ ⟨rfl, rfl, rfl⟩ rfl (On.at hs7 4 rfl) (On.at hs7 2 rfl) hB hW (by kernel_rfl) (fun _ _ => by kernel_rfl) ?_ ?_
 ·
  intro hp8
  refine XWp.seq ?_
  refine XWp.condF (by kernel_rfl) ?_
  refine XWp.exit ?_
  refine Eq.mpr (if_pos rfl) ?_
  obtain ⟨_, H9, hr10, rfl, hs11⟩ := sortI (A := an) rfl rfl _ (H6 : Go.Lg.Heap) (c := cv) (l := (refOf (q36 a) D)) (lenRs hn hp8 _) (On.call [5] [0, 1, 2, 3, 4] (by kernel_rfl) hs7)
  have hs11 : On [R, pts tt (.obj [.mp l, .mp mo]), pts mo (mapO es ck), pts p (.obj [vi a.1, vi a.2.1]), pts it (iterO mo ck seen), ownP NI cv (isort ltI (refOf (q36 a) D))] H9 := On.flat hs11
  refine XWp.regionSeq [(1, .tup [], H9)] [(5, .y (.one (cv)))] H9
    (cast (And.intro (ob_call (P := pg) (A := an) (H := H6) (g := 52) (vals := [.y (.one (cv))]) (xs0 := [.one (cv)]) (res := []) (ats := #[]) (ty := 0) (v := .tup []) (H' := H9) [.tmp 0] (by kernel_rfl) (by kernel_rfl) hr10 (by kernel_rfl)) trivial) (by kernel_rfl)) (by kernel_rfl) ?_
  refine XWp.gen (cs := [R, pts tt (.obj [.mp l, .mp mo]), pts mo (mapO es ck), pts p (.obj [vi a.1, vi a.2.1]), pts it (iterO mo ck seen), ownP NI cv (isort ltI (refOf (q36 a) D))]) hs11 ?_
  intro H12 hs13
  refine XWp.regionSeq [] [(4, .y (.one (cv)))] H12
    (cast trivial (by kernel_rfl)) (by kernel_rfl) ?_
  refine XWp.ret ?_
  refine ⟨Or.inr rfl, [.one (cv)], fun _ => by kernel_rfl, ?_⟩
  exact ⟨cv, rfl, by rw [← refsPerm hp8 (q36 a)]; exact (On.pick [0, 1, 2, 3, 5] [4] (by kernel_rfl) hs13)⟩
 ·
  intro x14 d15 hx16 hd17 he18 hw19 hl20
  refine XWp.gen (cs := [R, pts tt (.obj [.mp l, .mp mo]), pts mo (mapO es ck), pts p (.obj [vi a.1, vi a.2.1]), pts it (iterO mo ck (Array.push seen d15.born)), ownP NI cv (refOf (q36 a) D)]) (On.put (iterO mo ck (Array.push seen d15.born)) hs7 4 rfl) ?_
  intro H21 hs22
  have hL23 : ((refOf (q36 a) D).length : Int) ≤ D.length := lenRd _ _
  refine XWp.seq ?_
  refine XWp.condT (by kernel_rfl) ?_
  refine XWp.skip ?_
  refine XWp.block ?_
  obtain ⟨n24, hn24⟩ : ∃ n, n = List.length (H21 : Go.Lg.Heap) := ⟨_, rfl⟩
  refine XWp.regionSeq [(0, .tup [.one (vi x14.1), .agg [vi x14.2.1.1, vi x14.2.1.2.1, vi x14.2.2.1.1, vi x14.2.2.1.2.1]], H21), (3, .y (.one (.ptr n24 0)), (H21 ++ [.obj [vi 0, vi 0, vi 0, vi 0]])), (5, .tup [], (List.set (α := O) (H21 ++ [.obj [vi 0, vi 0, vi 0, vi 0]]) n24 (.obj [vi x14.2.1.1, vi x14.2.1.2.1, vi x14.2.2.1.1, vi x14.2.2.1.2.1])))] [(1, .y (.one (.fn (.func 36) [] [.ptr p 0]))), (5, .y (.one (cv))), (6, xi x14.1), (7, .y (.one (.ptr n24 0))), (12, .y (.one (.it it)))] (List.set (α := O) (H21 ++ [.obj [vi 0, vi 0, vi 0, vi 0]]) n24 (.obj [vi x14.2.1.1, vi x14.2.1.2.1, vi x14.2.2.1.1, vi x14.2.2.1.2.1]))
    (cast (And.intro (ob_entry (P := pg) (A := an) (H := H21) (ty := 0) (it := it) (k := .one (vi x14.1)) (v := .agg [vi x14.2.1.1, vi x14.2.1.2.1, vi x14.2.2.1.1, vi x14.2.2.1.2.1]) (On.at hs22 4 rfl) (On.at hs22 2 rfl) hB.2.1 hd17 (by rw [← (Prod.mk.inj he18).1]; rfl) (by rw [← (Prod.mk.inj he18).2]; exact ofV_PR x14.2)) (And.intro (ob_alloc (P := pg) (A := an) (H := H21) (t := 72) (ty := 0) (n := n24) (cs := [vi 0, vi 0, vi 0, vi 0]) hn24 (by kernel_rfl)) (And.intro (ob_store_ptr (P := pg) (A := an) (H := (H21 ++ [.obj [vi 0, vi 0, vi 0, vi 0]])) (t := 72) (ty := 0) (id := n24) (off := 0) (cs := [vi 0, vi 0, vi 0, vi 0]) (cs' := [vi x14.2.1.1, vi x14.2.1.2.1, vi x14.2.2.1.1, vi x14.2.2.1.2.1]) (v := .agg [vi x14.2.1.1, vi x14.2.1.2.1, vi x14.2.2.1.1, vi x14.2.2.1.2.1]) (On.at (On.new' hn24 (.obj [vi 0, vi 0, vi 0, vi 0]) hs22) 6 rfl) (by kernel_rfl) (by kernel_rfl) (by kernel_rfl)) trivial))) (by kernel_rfl)) (by kernel_rfl) ?_
  refine XWp.gen (cs := [R, pts tt (.obj [.mp l, .mp mo]), pts mo (mapO es ck), pts p (.obj [vi a.1, vi a.2.1]), pts it (iterO mo ck (Array.push seen d15.born)), ownP NI cv (refOf (q36 a) D), pts n24 (.obj [vi x14.2.1.1, vi x14.2.1.2.1, vi x14.2.2.1.1, vi x14.2.2.1.2.1])]) (On.put (.obj [vi x14.2.1.1, vi x14.2.1.2.1, vi x14.2.2.1.1, vi x14.2.2.1.2.1]) (On.new' hn24 (.obj [vi 0, vi 0, vi 0, vi 0]) hs22) 6 rfl) ?_
  intro H25 hs26
  rcases Bool.eq_false_or_eq_true ((q36 a x14.2)) with c27 | c27
  ·
   obtain ⟨_, H28, hr29, rfl, hs30⟩ := cl36 _ (H25 : Go.Lg.Heap) p a x14.2 (On.call [3] [0, 1, 2, 4, 5, 6] (by kernel_rfl) hs26)
   have hs30 : On [R, pts tt (.obj [.mp l, .mp mo]), pts mo (mapO es ck), pts it (iterO mo ck (Array.push seen d15.born)), ownP NI cv (refOf (q36 a) D), pts n24 (.obj [vi x14.2.1.1, vi x14.2.1.2.1, vi x14.2.2.1.1, vi x14.2.2.1.2.1]), pts p (.obj [vi a.1, vi a.2.1])] H28 := On.flat hs30
   rw [c27] at hr29
   refine XWp.regionSeq [(1, .y (.agg [vi x14.2.1.1, vi x14.2.1.2.1, vi x14.2.2.1.1, vi x14.2.2.1.2.1]), H25), (2, xb true, H28)] [(1, .y (.one (.fn (.func 36) [] [.ptr p 0]))), (5, .y (.one (cv))), (6, xi x14.1), (12, .y (.one (.it it))), (20, xb true)] H28
     (cast (And.intro (ob_load_ptr (P := pg) (A := an) (H := H25) (t := 72) (ty := 0) (id := n24) (off := 0) (n := 4) (cs := [vi x14.2.1.1, vi x14.2.1.2.1, vi x14.2.2.1.1, vi x14.2.2.1.2.1]) (cs' := [vi x14.2.1.1, vi x14.2.1.2.1, vi x14.2.2.1.1, vi x14.2.2.1.2.1]) (v := .agg [vi x14.2.1.1, vi x14.2.1.2.1, vi x14.2.2.1.1, vi x14.2.2.1.2.1]) (On.at hs26 6 rfl) (by kernel_rfl) (by kernel_rfl) (by kernel_rfl) (by kernel_rfl)) (And.intro (ob_callv (P := pg) (A := an) (H := H25) (g := 36) (first := []) (cap := [.ptr p 0]) (vals := [.y (.agg [vi x14.2.1.1, vi x14.2.1.2.1, vi x14.2.2.1.1, vi x14.2.2.1.2.1])]) (xs0 := [.agg [vi x14.2.1.1, vi x14.2.1.2.1, vi x14.2.2.1.1, vi x14.2.2.1.2.1]]) (res := [.one (vb true)]) (ats := #[]) (ty := 0) (v := xb true) (H' := (H28 : Go.Lg.Heap)) [.tmp 1] (by kernel_rfl) (by kernel_rfl) (by exact hr29) (by kernel_rfl)) trivial)) (by kernel_rfl)) (by kernel_rfl) ?_
   refine XWp.gen (cs := [R, pts tt (.obj [.mp l, .mp mo]), pts mo (mapO es ck), pts it (iterO mo ck (Array.push seen d15.born)), ownP NI cv (refOf (q36 a) D), pts n24 (.obj [vi x14.2.1.1, vi x14.2.1.2.1, vi x14.2.2.1.1, vi x14.2.2.1.2.1]), pts p (.obj [vi a.1, vi a.2.1])]) hs30 ?_
   intro H31 hs32
   refine XWp.condT (by kernel_rfl) ?_
   obtain ⟨cv33, H34, ho35, hs36⟩ := or_append_own (P := pg) (A := an) (s := NI) (t := 75) (u := 75) (el := 3) (by_ := 8) (z := [vi 0]) (ty := 0) (y := .sl false false true [vi x14.1] 1) (lm := ([x14.1])) (m := 1) hs32 4 rfl ((slCells_slO (H := H31) (s := NI) (b := false) (nil := false) (capd := true) (l := [x14.1]) (n := 1) (by first | rfl | omega | (simp only [List.length_nil]; omega) | (simp; done) | (simp; omega)))) (by kernel_rfl) (by kernel_rfl) (by kernel_rfl) (by kernel_rfl) (by kernel_rfl) (by kernel_rfl) (by kernel_rfl) (by first | rfl | omega | (simp only [List.length_nil]; omega) | (simp; done) | (simp; omega)) (by omega) (by omega)
   have hs36l : (((refOf (q36 a) D) ++ ([x14.1])).length : Int) = (((refOf (q36 a) D).length : Int) + 1) := by { first | omega | (simp only [List.length_append]; omega) | (simp; done) | (simp; omega) }
   refine XWp.regionK [(3, .y (.one (cv33)), H34)] [(1, .y (.one (.fn (.func 36) [] [.ptr p 0]))), (5, .y (.one (cv33))), (12, .y (.one (.it it)))] H34
     (cast (And.intro ho35 trivial) (by kernel_rfl)) (by kernel_rfl) ?_
   refine wG (cs := [R, pts tt (.obj [.mp l, .mp mo]), pts mo (mapO es ck), pts it (iterO mo ck (Array.push seen d15.born)), pts n24 (.obj [vi x14.2.1.1, vi x14.2.1.2.1, vi x14.2.2.1.1, vi x14.2.2.1.2.1]), pts p (.obj [vi a.1, vi a.2.1]), ownP NI cv33 ((refOf (q36 a) D) ++ ([x14.1]))]) hs36 ?_
   intro H37 hs38
   refine wK ?_
   exact ⟨(H37, it, (Array.push seen d15.born), (D ++ [x14]), cv33), by kernel_rfl, (⟨(On.pick [0, 1, 2, 5, 3, 6] [4] (by kernel_rfl) (On.mono (A' := ownP NI cv33 (refOf (q36 a) (D ++ [x14]))) 6 rfl (fun _ x => by rw [← (show ((refOf (q36 a) D) ++ ([x14.1])) = (refOf (q36 a) (D ++ [x14])) from by rw [refOf_snoc]; simp only [c27, if_true, if_false, Bool.false_eq_true, List.append_nil])]; exact x) hs38)), hw19⟩), (by show (_ : Nat) < _; simp only [List.length_append, List.length_cons, List.length_nil]; omega)⟩
  ·
   obtain ⟨_, H39, hr40, rfl, hs41⟩ := cl36 _ (H25 : Go.Lg.Heap) p a x14.2 (On.call [3] [0, 1, 2, 4, 5, 6] (by kernel_rfl) hs26)
   have hs41 : On [R, pts tt (.obj [.mp l, .mp mo]), pts mo (mapO es ck), pts it (iterO mo ck (Array.push seen d15.born)), ownP NI cv (refOf (q36 a) D), pts n24 (.obj [vi x14.2.1.1, vi x14.2.1.2.1, vi x14.2.2.1.1, vi x14.2.2.1.2.1]), pts p (.obj [vi a.1, vi a.2.1])] H39 := On.flat hs41
   rw [c27] at hr40
   refine XWp.regionSeq [(1, .y (.agg [vi x14.2.1.1, vi x14.2.1.2.1, vi x14.2.2.1.1, vi x14.2.2.1.2.1]), H25), (2, xb false, H39)] [(1, .y (.one (.fn (.func 36) [] [.ptr p 0]))), (5, .y (.one (cv))), (6, xi x14.1), (12, .y (.one (.it it))), (20, xb false)] H39
     (cast (And.intro (ob_load_ptr (P := pg) (A := an) (H := H25) (t := 72) (ty := 0) (id := n24) (off := 0) (n := 4) (cs := [vi x14.2.1.1, vi x14.2.1.2.1, vi x14.2.2.1.1, vi x14.2.2.1.2.1]) (cs' := [vi x14.2.1.1, vi x14.2.1.2.1, vi x14.2.2.1.1, vi x14.2.2.1.2.1]) (v := .agg [vi x14.2.1.1, vi x14.2.1.2.1, vi x14.2.2.1.1, vi x14.2.2.1.2.1]) (On.at hs26 6 rfl) (by kernel_rfl) (by kernel_rfl) (by kernel_rfl) (by kernel_rfl)) (And.intro (ob_callv (P := pg) (A := an) (H := H25) (g := 36) (first := []) (cap := [.ptr p 0]) (vals := [.y (.agg [vi x14.2.1.1, vi x14.2.1.2.1, vi x14.2.2.1.1, vi x14.2.2.1.2.1])]) (xs0 := [.agg [vi x14.2.1.1, vi x14.2.1.2.1, vi x14.2.2.1.1, vi x14.2.2.1.2.1]]) (res := [.one (vb false)]) (ats := #[]) (ty := 0) (v := xb false) (H' := (H39 : Go.Lg.Heap)) [.tmp 1] (by kernel_rfl) (by kernel_rfl) (by exact hr40) (by kernel_rfl)) trivial)) (by kernel_rfl)) (by kernel_rfl) ?_
   refine XWp.gen (cs := [R, pts tt (.obj [.mp l, .mp mo]), pts mo (mapO es ck), pts it (iterO mo ck (Array.push seen d15.born)), ownP NI cv (refOf (q36 a) D), pts n24 (.obj [vi x14.2.1.1, vi x14.2.1.2.1, vi x14.2.2.1.1, vi x14.2.2.1.2.1]), pts p (.obj [vi a.1, vi a.2.1])]) hs41 ?_
   intro H42 hs43
   refine XWp.condF (by kernel_rfl) ?_
   refine XWp.skip ?_
   exact ⟨(H42, it, (Array.push seen d15.born), (D ++ [x14]), cv), by kernel_rfl, (⟨(On.pick [0, 1, 2, 6, 3, 4] [5] (by kernel_rfl) (On.mono (A' := ownP NI cv (refOf (q36 a) (D ++ [x14]))) 4 rfl (fun _ x => by rw [← (show (refOf (q36 a) D) = (refOf (q36 a) (D ++ [x14])) from by rw [refOf_snoc]; simp only [c27, if_true, if_false, Bool.false_eq_true, List.append_nil])]; exact x) hs43)), hw19⟩), (by show (_ : Nat) < _; simp only [List.length_append, List.length_cons, List.length_nil]; omega)⟩
theorem refs_37 (R : HP) (H : Go.Lg.Heap) (tt l mo ck : Nat) (es : Array MapEntry) (M : List TI.T) (p : Nat) (a : PD.T) (hs : On [R, pts tt (.obj [.mp l, .mp mo]), pts mo (mapO es ck), pts p (.obj [vi a.1, vi a.2.1])] H) (hB : BagOk (M.map enM) es ck) (hn : M.length ≤ 3518437208883) : XWp pg an 34 (Try.f34.body.getD .skip) [(0, .y (.one (.ptr tt 0))), (1, .y (.one (.fn (.func 37) [] [.ptr p 0])))] H fun x e9 H9 => (x = .normal ∨ x = .ret) ∧ ∃ ys, (∀ H8, Try.f34.results.toList.mapM (resX pg e9 H8) = some ys) ∧ ∃ c, ys = [.one c] ∧ On [R, pts tt (.obj [.mp l, .mp mo]), pts mo (mapO es ck), pts p (.obj [vi a.1, vi a.2.1]), ownP NI c (isort ltI (refOf (q37 a) M))] H9 := by
 unfold Try.f34
 show XWp _ _ _ _ [(0, .y (.one (.ptr tt 0))), (1, .y (.one (.fn (.func 37) [] [.ptr p 0])))] H _
 refine XWp.regionSeq [] [(0, .y (.one (.ptr tt 0))), (1, .y (.one (.fn (.func 37) [] [.ptr p 0])))] H
   (cast trivial (by kernel_rfl)) (by kernel_rfl) ?_
 refine XWp.regionSeq [] [(0, .y (.one (.ptr tt 0))), (1, .y (.one (.fn (.func 37) [] [.ptr p 0]))), (5, .y (.one (.sl false true true [] 0)))] H
   (cast trivial (by kernel_rfl)) (by kernel_rfl) ?_
 refine XWp.seq ?_
 obtain ⟨n1, hn1⟩ : ∃ n, n = List.length (H : Go.Lg.Heap) := ⟨_, rfl⟩
 refine XWp.regionSeq [(3, .y (.one (.mp mo)), H), (4, .y (.one (.it n1)), (H ++ [iterO mo ck #[]]))] [(1, .y (.one (.fn (.func 37) [] [.ptr p 0]))), (5, .y (.one (.sl false true true [] 0))), (12, .y (.one (.it n1)))] (H ++ [iterO mo ck #[]])
   (cast (And.intro (ob_load_ptr (P := pg) (A := an) (H := H) (t := 59) (ty := 0) (id := tt) (off := 1) (n := 1) (cs := [.mp l, .mp mo]) (cs' := [.mp mo]) (v := .one (.mp mo)) (On.at hs 1 rfl) (by kernel_rfl) (by kernel_rfl) (by kernel_rfl) (by kernel_rfl)) (And.intro (ob_range (P := pg) (A := an) (H := H) (t := 59) (ty := 0) (m := mo) (n := n1) (ck := ck) (es := es) hn1 (by kernel_rfl) (On.at hs 2 rfl)) trivial)) (by kernel_rfl)) (by kernel_rfl) ?_
 refine XWp.gen (cs := [R, pts tt (.obj [.mp l, .mp mo]), pts mo (mapO es ck), pts p (.obj [vi a.1, vi a.2.1]), pts n1 (iterO mo ck #[])]) (On.new' hn1 (iterO mo ck #[]) hs) ?_
 intro H2 hs3
 refine XWp.block ?_
 have hs4 : On [R, pts tt (.obj [.mp l, .mp mo]), pts mo (mapO es ck), pts p (.obj [vi a.1, vi a.2.1]), pts n1 (iterO mo ck #[]), ownP NI (.sl false true true [] 0) (refOf (q37 a) ([] : List TI.T))] H2 := On.shut (cs := [R, pts tt (.obj [.mp l, .mp mo]), pts mo (mapO es ck), pts p (.obj [vi a.1, vi a.2.1]), pts n1 (iterO mo ck #[])]) [] [0, 1, 2, 3, 4] (by kernel_rfl) (fun _ _ => by rw [show (refOf (q37 a) ([] : List TI.T)) = ([] : List Int) from rfl]; exact .inl ⟨rfl, rfl⟩) hs3
 refine XWp.loop (T := Go.Lg.Heap × Nat × Array Nat × List TI.T × C) (fun (t : Go.Lg.Heap × Nat × Array Nat × List TI.T × C) => match t with | (H6, it, seen, D, cv) => (M.length - D.length : Nat)) (fun (t : Go.Lg.Heap × Nat × Array Nat × List TI.T × C) => match t with | (H6, it, seen, D, cv) => ([(1, .y (.one (.fn (.func 37) [] [.ptr p 0]))), (5, .y (.one (cv))), (12, .y (.one (.it it)))] : Env)) (fun (t : Go.Lg.Heap × Nat × Array Nat × List TI.T × C) => match t with | (H6, it, seen, D, cv) => (H6 : Go.Lg.Heap))
   (fun (t : Go.Lg.Heap × Nat × Array Nat × List TI.T × C) => match t with | (H6, it, seen, D, cv) => (On [R, pts tt (.obj [.mp l, .mp mo]), pts mo (mapO es ck), pts p (.obj [vi a.1, vi a.2.1]), pts it (iterO mo ck seen), ownP NI cv (refOf (q37 a) D)] H6 ∧ (Went enM es seen D) : Prop)) (H2, n1, #[], [], (.sl false true true [] 0)) (by kernel_rfl) (⟨(On.pick [0, 1, 2, 3, 4, 5] [] (by kernel_rfl) hs4), went_nil _ _⟩) ?_
 rintro ⟨H6, it, seen, D, cv⟩ ⟨hs7, hW⟩
 show XWp _ _ _ _ [(1, .y (.one (.fn (.func 37) [] [.ptr p 0]))), (5, .y (.one (cv))), (12, .y (.one (.it it)))] H6 _
 refine XWp.nextE (L := M) (D := D) (eF := [(1, .y (.one (.fn (.func 37) [] [.ptr p 0]))), (5, .y (.one (cv))), (12, .y (.one (.it it))), (14, xb false)]) (eT := [(1, .y (.one (.fn (.func 37) [] [.ptr p 0]))), (5, .y (.one (cv))), (12, .y (.one (.it it))), (14, xb true)]) enM_inj ⟨rfl, rfl, rfl⟩ ⟨rfl, rfl, rfl⟩ rfl (On.at hs7 4 rfl) (On.at hs7 2 rfl) hB hW (by kernel_rfl) (fun _ _ => by kernel_rfl) ?_ ?_
 ·
  intro hp8
  refine XWp.seq ?_
  refine XWp.condF (by kernel_rfl) ?_
  refine XWp.exit ?_
  refine Eq.mpr (if_pos rfl) ?_
  obtain ⟨_, H9, hr10, rfl, hs11⟩ := sortI (A := an) rfl rfl _ (H6 : Go.Lg.Heap) (c := cv) (l := (refOf (q37 a) D)) (lenRs hn hp8 _) (On.call [5] [0, 1, 2, 3, 4] (by kernel_rfl) hs7)
  have hs11 : On [R, pts tt (.obj [.mp l, .mp mo]), pts mo (mapO es ck), pts p (.obj [vi a.1, vi a.2.1]), pts it (iterO mo ck seen), ownP NI cv (isort ltI (refOf (q37 a) D))] H9 := On.flat hs11
  refine XWp.regionSeq [(1, .tup [], H9)] [(5, .y (.one (cv)))] H9
    (cast (And.intro (ob_call (P := pg) (A := an) (H := H6) (g := 52) (vals := [.y (.one (cv))]) (xs0 := [.one (cv)]) (res := []) (ats := #[]) (ty := 0) (v := .tup []) (H' := H9) [.tmp 0] (by kernel_rfl) (by kernel_rfl) hr10 (by kernel_rfl)) trivial) (by kernel_rfl)) (by kernel_rfl) ?_
  refine XWp.gen (cs := [R, pts tt (.obj [.mp l, .mp mo]), pts mo (mapO es ck), pts p (.obj [vi a.1, vi a.2.1]), pts it (iterO mo ck seen), ownP NI cv (isort ltI (refOf (q37 a) D))]) hs11 ?_
  intro H12 hs13
  refine XWp.regionSeq [] [(4, .y (.one (cv)))] H12
    (cast trivial (by kernel_rfl)) (by kernel_rfl) ?_
  refine XWp.ret ?_
  refine ⟨Or.inr rfl, [.one (cv)], fun _ => by kernel_rfl, ?_⟩
  exact ⟨cv, rfl, by rw [← refsPerm hp8 (q37 a)]; exact (On.pick [0, 1, 2, 3, 5] [4] (by kernel_rfl) hs13)⟩
 ·
  intro x14 d15 hx16 hd17 he18 hw19 hl20
  refine XWp.gen (cs := [R, pts tt (.obj [.mp l, .mp mo]), pts mo (mapO es ck), pts p (.obj [vi a.1, vi a.2.1]), pts it (iterO mo ck (Array.push seen d15.born)), ownP NI cv (refOf (q37 a) D)]) (On.put (iterO mo ck (Array.push seen d15.born)) hs7 4 rfl) ?_
  intro H21 hs22
  have hL23 : ((refOf (q37 a) D).length : Int) ≤ D.length := lenRd _ _
  refine XWp.seq ?_
  refine XWp.condT (by kernel_rfl) ?_
  refine XWp.skip ?_
  refine XWp.block ?_
  obtain ⟨n24, hn24⟩ : ∃ n, n = List.length (H21 : Go.Lg.Heap) := ⟨_, rfl⟩
  refine XWp.regionSeq [(0, .tup [.one (vi x14.1), .agg [vi x14.2.1.1, vi x14.2.1.2.1, vi x14.2.2.1.1, vi x14.2.2.1.2.1]], H21), (3, .y (.one (.ptr n24 0)), (H21 ++ [.obj [vi 0, vi 0, vi 0, vi 0]])), (5, .tup [], (List.set (α := O) (H21 ++ [.obj [vi 0, vi 0, vi 0, vi 0]]) n24 (.obj [vi x14.2.1.1, vi x14.2.1.2.1, vi x14.2.2.1.1, vi x14.2.2.1.2.1])))] [(1, .y (.one (.fn (.func 37) [] [.ptr p 0]))), (5, .y (.one (cv))), (6, xi x14.1), (7, .y (.one (.ptr n24 0))), (12, .y (.one (.it it)))] (List.set (α := O) (H21 ++ [.obj [vi 0, vi 0, vi 0, vi 0]]) n24 (.obj [vi x14.2.1.1, vi x14.2.1.2.1, vi x14.2.2.1.1, vi x14.2.2.1.2.1]))
    (cast (And.intro (ob_entry (P := pg) (A := an) (H := H21) (ty := 0) (it := it) (k := .one (vi x14.1)) (v := .agg [vi x14.2.1.1, vi x14.2.1.2.1, vi x14.2.2.1.1, vi x14.2.2.1.2.1]) (On.at hs22 4 rfl) (On.at hs22 2 rfl) hB.2.1 hd17 (by rw [← (Prod.mk.inj he18).1]; rfl) (by rw [← (Prod.mk.inj he18).2]; exact ofV_PR x14.2)) (And.intro (ob_alloc (P := pg) (A := an) (H := H21) (t := 72) (ty := 0) (n := n24) (cs := [vi 0, vi 0, vi 0, vi 0]) hn24 (by kernel_rfl)) (And.intro (ob_store_ptr (P := pg) (A := an) (H := (H21 ++ [.obj [vi 0, vi 0, vi 0, vi 0]])) (t := 72) (ty := 0) (id := n24) (off := 0) (cs := [vi 0, vi 0, vi 0, vi 0]) (cs' := [vi x14.2.1.1, vi x14.2.1.2.1, vi x14.2.2.1.1, vi x14.2.2.1.2.1]) (v := .agg [vi x14.2.1.1, vi x14.2.1.2.1, vi x14.2.2.1.1, vi x14.2.2.1.2.1]) (On.at (On.new' hn24 (.obj [vi 0, vi 0, vi 0, vi 0]) hs22) 6 rfl) (by kernel_rfl) (by kernel_rfl) (by kernel_rfl)) trivial))) (by kernel_rfl)) (by kernel_rfl) ?_
  refine XWp.gen (cs := [R, pts tt (.obj [.mp l, .mp mo]), pts mo (mapO es ck), pts p (.obj [vi a.1, vi a.2.1]), pts it (iterO mo ck (Array.push seen d15.born)), ownP NI cv (refOf (q37 a) D), pts n24 (.obj [vi x14.2.1.1, vi x14.2.1.2.1, vi x14.2.2.1.1, vi x14.2.2.1.2.1])]) (On.put (.obj [vi x14.2.1.1, vi x14.2.1.2.1, vi x14.2.2.1.1, vi x14.2.2.1.2.1]) (On.new' hn24 (.obj [vi 0, vi 0, vi 0, vi 0]) hs22) 6 rfl) ?_
  intro H25 hs26
  rcases Bool.eq_false_or_eq_true ((q37 a x14.2)) with c27 | c27
  ·
   obtain ⟨_, H28, hr29, rfl, hs30⟩ := cl37 _ (H25 : Go.Lg.Heap) p a x14.2 (On.call [3] [0, 1, 2, 4, 5, 6] (by kernel_rfl) hs26)
   have hs30 : On [R, pts tt (.obj [.mp l, .mp mo]), pts mo (mapO es ck), pts it (iterO mo ck (Array.push seen d15.born)), ownP NI cv (refOf (q37 a) D), pts n24 (.obj [vi x14.2.1.1, vi x14.2.1.2.1, vi x14.2.2.1.1, vi x14.2.2.1.2.1]), pts p (.obj [vi a.1, vi a.2.1])] H28 := On.flat hs30
   rw [c27] at hr29
   refine XWp.regionSeq [(1, .y (.agg [vi x14.2.1.1, vi x14.2.1.2.1, vi x14.2.2.1.1, vi x14.2.2.1.2.1]), H25), (2, xb true, H28)] [(1, .y (.one (.fn (.func 37) [] [.ptr p 0]))), (5, .y (.one (cv))), (6, xi x14.1), (12, .y (.one (.it it))), (20, xb true)] H28
     (cast (And.intro (ob_load_ptr (P := pg) (A := an) (H := H25) (t := 72) (ty := 0) (id := n24) (off := 0) (n := 4) (cs := [vi x14.2.1.1, vi x14.2.1.2.1, vi x14.2.2.1.1, vi x14.2.2.1.2.1]) (cs' := [vi x14.2.1.1, vi x14.2.1.2.1, vi x14.2.2.1.1, vi x14.2.2.1.2.1]) (v := .agg [vi x14.2.1.1, vi x14.2.1.2.1, vi x14.2.2.1.1, vi x14.2.2.1.2.1]) (On.at hs26 6 rfl) (by kernel_rfl) (by kernel_rfl) (by kernel_rfl) (by kernel_rfl)) (And.intro (ob_callv (P := pg) (A := an) (H := H25) (g := 37) (first := []) (cap := [.ptr p 0]) (vals := [.y (.agg [vi x14.2.1.1, vi x14.2.1.2.1, vi x14.2.2.1.1, vi x14.2.2.1.2.1])]) (xs0 := [.agg [vi x14.2.1.1, vi x14.2.1.2.1, vi x14.2.2.1.1, vi x14.2.2.1.2.1]]) (res := [.one (vb true)]) (ats := #[]) (ty := 0) (v := xb true) (H' := (H28 : Go.Lg.Heap)) [.tmp 1] (by kernel_rfl) (by kernel_rfl) (by exact hr29) (by kernel_rfl)) trivial)) (by kernel_rfl)) (by kernel_rfl) ?_
   refine XWp.gen (cs := [R, pts tt (.obj [.mp l, .mp mo]), pts mo (mapO es ck), pts it (iterO mo ck (Array.push seen d15.born)), ownP NI cv (refOf (q37 a) D), pts n24 (.obj [vi x14.2.1.1, vi x14.2.1.2.1, vi x14.2.2.1.1, vi x14.2.2.1.2.1]), pts p (.obj [vi a.1, vi a.2.1])]) hs30 ?_
   intro H31 hs32
   refine XWp.condT (by kernel_rfl) ?_
   obtain ⟨cv33, H34, ho35, hs36⟩ := or_append_own (P := pg) (A := an) (s := NI) (t := 75) (u := 75) (el := 3) (by_ := 8) (z := [vi 0]) (ty := 0) (y := .sl false false true [vi x14.1] 1) (lm := ([x14.1])) (m := 1) hs32 4 rfl ((slCells_slO (H := H31) (s := NI) (b := false) (nil := false) (capd := true) (l := [x14.1]) (n := 1) (by first | rfl | omega | (simp only [List.length_nil]; omega) | (simp; done) | (simp; omega)))) (by kernel_rfl) (by kernel_rfl) (by kernel_rfl) (by kernel_rfl) (by kernel_rfl) (by kernel_rfl) (by kernel_rfl) (by first | rfl | omega | (simp only [List.length_nil]; omega) | (simp; done) | (simp; omega)) (by omega) (by omega)
   have hs36l : (((refOf (q37 a) D) ++ ([x14.1])).length : Int) = (((refOf (q37 a) D).length : Int) + 1) := by { first | omega | (simp only [List.length_append]; omega) | (simp; done) | (simp; omega) }
   refine XWp.regionK [(3, .y (.one (cv33)), H34)] [(1, .y (.one (.fn (.func 37) [] [.ptr p 0]))), (5, .y (.one (cv33))), (12, .y (.one (.it it)))] H34
     (cast (And.intro ho35 trivial) (by kernel_rfl)) (by kernel_rfl) ?_
   refine wG (cs := [R, pts tt (.obj [.mp l, .mp mo]), pts mo (mapO es ck), pts it (iterO mo ck (Array.push seen d15.born)), pts n24 (.obj [vi x14.2.1.1, vi x14.2.1.2.1, vi x14.2.2.1.1, vi x14.2.2.1.2.1]), pts p (.obj [vi a.1, vi a.2.1]), ownP NI cv33 ((refOf (q37 a) D) ++ ([x14.1]))]) hs36 ?_
   intro H37 hs38
   refine wK ?_
   exact ⟨(H37, it, (Array.push seen d15.born), (D ++ [x14]), cv33), by kernel_rfl, (⟨(On.pick [0, 1, 2, 5, 3, 6] [4] (by kernel_rfl) (On.mono (A' := ownP NI cv33 (refOf (q37 a) (D ++ [x14]))) 6 rfl (fun _ x => by rw [← (show ((refOf (q37 a) D) ++ ([x14.1])) = (refOf (q37 a) (D ++ [x14])) from by rw [refOf_snoc]; simp only [c27, if_true, if_false, Bool.false_eq_true, List.append_nil])]; exact x) hs38)), hw19⟩), (by show (_ : Nat) < _; simp only [List.length_append, List.length_cons, List.length_nil]; omega)⟩
  ·
   obtain ⟨_, H39, hr40, rfl, hs41⟩ := cl37 _ (H25 : Go.Lg.Heap) p a x14.2 (On.call [3] [0, 1, 2, 4, 5, 6] (by kernel_rfl) hs26)
   have hs41 : On [R, pts tt (.obj [.mp l, .mp mo]), pts mo (mapO es ck), pts it (iterO mo ck (Array.push seen d15.born)), ownP NI cv (refOf (q37 a) D), pts n24 (.obj [vi x14.2.1.1, vi x14.2.1.2.1, vi x14.2.2.1.1, vi x14.2.2.1.2.1]), pts p (.obj [vi a.1, vi a.2.1])] H39 := On.flat hs41
   rw [c27] at hr40
   refine XWp.regionSeq [(1, .y (.agg [vi x14.2.1.1, vi x14.2.1.2.1, vi x14.2.2.1.1, vi x14.2.2.1.2.1]), H25), (2, xb false, H39)] [(1, .y (.one (.fn (.func 37) [] [.ptr p 0]))), (5, .y (.one (cv))), (6, xi x14.1), (12, .y (.one (.it it))), (20, xb false)] H39
     (cast (And.intro (ob_load_ptr (P := pg) (A := an) (H := H25) (t := 72) (ty := 0) (id := n24) (off := 0) (n := 4) (cs := [vi x14.2.1.1, vi x14.2.1.2.1, vi x14.2.2.1.1, vi x14.2.2.1.2.1]) (cs' := [vi x14.2.1.1, vi x14.2.1.2.1, vi x14.2.2.1.1, vi x14.2.2.1.2.1]) (v := .agg [vi x14.2.1.1, vi x14.2.1.2.1, vi x14.2.2.1.1, vi x14.2.2.1.2.1]) (On.at hs26 6 rfl) (by kernel_rfl) (by kernel_rfl) (by kernel_rfl) (by kernel_rfl)) (And.intro (ob_callv (P := pg) (A := an) (H := H25) (g := 37) (first := []) (cap := [.ptr p 0]) (vals := [.y (.agg [vi x14.2.1.1, vi x14.2.1.2.1, vi x14.2.2.1.1, vi x14.2.2.1.2.1])]) (xs0 := [.agg [vi x14.2.1.1, vi x14.2.1.2.1, vi x14.2.2.1.1, vi x14.2.2.1.2.1]]) (res := [.one (vb false)]) (ats := #[]) (ty := 0) (v := xb false) (H' := (H39 : Go.Lg.Heap)) [.tmp 1] (by kernel_rfl) (by kernel_rfl) (by exact hr40) (by kernel_rfl)) trivial)) (by kernel_rfl)) (by kernel_rfl) ?_
   refine XWp.gen (cs := [R, pts tt (.obj [.mp l, .mp mo]), pts mo (mapO es ck), pts it (iterO mo ck (Array.push seen d15.born)), ownP NI cv (refOf (q37 a) D), pts n24 (.obj [vi x14.2.1.1, vi x14.2.1.2.1, vi x14.2.2.1.1, vi x14.2.2.1.2.1]), pts p (.obj [vi a.1, vi a.2.1])]) hs41 ?_
   intro H42 hs43
   refine XWp.condF (by kernel_rfl) ?_
   refine XWp.skip ?_
   exact ⟨(H42, it, (Array.push seen d15.born), (D ++ [x14]), cv), by kernel_rfl, (⟨(On.pick [0, 1, 2, 6, 3, 4] [5] (by kernel_rfl) (On.mono (A' := ownP NI cv (refOf (q37 a) (D ++ [x14]))) 4 rfl (fun _ x => by rw [← (show (refOf (q37 a) D) = (refOf (q37 a) (D ++ [x14])) from by rw [refOf_snoc]; simp only [c27, if_true, if_false, Bool.false_eq_true, List.append_nil])]; exact x) hs43)), hw19⟩), (by show (_ : Nat) < _; simp only [List.length_append, List.length_cons, List.length_nil]; omega)⟩
theorem refs_40 (R : HP) (H : Go.Lg.Heap) (tt l mo ck : Nat) (es : Array MapEntry) (M : List TI.T) (hs : On [R, pts tt (.obj [.mp l, .mp mo]), pts mo (mapO es ck)] H) (hB : BagOk (M.map enM) es ck) (hn : M.length ≤ 3518437208883) : XWp pg an 34 (Try.f34.body.getD .skip) [(0, .y (.one (.ptr tt 0))), (1, .y (.one (.fn (.func 40) [] [])))] H fun x e9 H9 => (x = .normal ∨ x = .ret) ∧ ∃ ys, (∀ H8, Try.f34.results.toList.mapM (resX pg e9 H8) = some ys) ∧ ∃ c, ys = [.one c] ∧ On [R, pts tt (.obj [.mp l, .mp mo]), pts mo (mapO es ck), ownP NI c (isort ltI (refOf q40 M))] H9 := by
 unfold Try.f34
 show XWp _ _ _ _ [(0, .y (.one (.ptr tt 0))), (1, .y (.one (.fn (.func 40) [] [])))] H _
 refine XWp.regionSeq [] [(0, .y (.one (.ptr tt 0))), (1, .y (.one (.fn (.func 40) [] [])))] H
   (cast trivial (by kernel_rfl)) (by kernel_rfl) ?_
 refine XWp.regionSeq [] [(0, .y (.one (.ptr tt 0))), (1, .y (.one (.fn (.func 40) [] []))), (5, .y (.one (.sl false true true [] 0)))] H
   (cast trivial (by kernel_rfl)) (by kernel_rfl) ?_
 refine XWp.seq ?_
 obtain ⟨n1, hn1⟩ : ∃ n, n = List.length (H : Go.Lg.Heap) := ⟨_, rfl⟩
 refine XWp.regionSeq [(3, .y (.one (.mp mo)), H), (4, .y (.one (.it n1)), (H ++ [iterO mo ck #[]]))] [(1, .y (.one (.fn (.func 40) [] []))), (5, .y (.one (.sl false true true [] 0))), (12, .y (.one (.it n1)))] (H ++ [iterO mo ck #[]])
   (cast (And.intro (ob_load_ptr (P := pg) (A := an) (H := H) (t := 59) (ty := 0) (id := tt) (off := 1) (n := 1) (cs := [.mp l, .mp mo]) (cs' := [.mp mo]) (v := .one (.mp mo)) (On.at hs 1 rfl) (by kernel_rfl) (by kernel_rfl) (by kernel_rfl) (by kernel_rfl)) (And.intro (ob_range (P := pg) (A := an) (H := H) (t := 59) (ty := 0) (m := mo) (n := n1) (ck := ck) (es := es) hn1 (by kernel_rfl) (On.at hs 2 rfl)) trivial)) (by kernel_rfl)) (by kernel_rfl) ?_
 refine XWp.gen (cs := [R, pts tt (.obj [.mp l, .mp mo]), pts mo (mapO es ck), pts n1 (iterO mo ck #[])]) (On.new' hn1 (iterO mo ck #[]) hs) ?_
 intro H2 hs3
 refine XWp.block ?_
 have hs4 : On [R, pts tt (.obj [.mp l, .mp mo]), pts mo (mapO es ck), pts n1 (iterO mo ck #[]), ownP NI (.sl false true true [] 0) (refOf q40 ([] : List TI.T))] H2 := On.shut (cs := [R, pts tt (.obj [.mp l, .mp mo]), pts mo (mapO es ck), pts n1 (iterO mo ck #[])]) [] [0, 1, 2, 3] (by kernel_rfl) (fun _ _ => by rw [show (refOf q40 ([] : List TI.T)) = ([] : List Int) from rfl]; exact .inl ⟨rfl, rfl⟩) hs3
 refine XWp.loop (T := Go.Lg.Heap × Nat × Array Nat × List TI.T × C) (fun (t : Go.Lg.Heap × Nat × Array Nat × List TI.T × C) => match t with | (H6, it, seen, D, cv) => (M.length - D.length : Nat)) (fun (t : Go.Lg.Heap × Nat × Array Nat × List TI.T × C) => match t with | (H6, it, seen, D, cv) => ([(1, .y (.one (.fn (.func 40) [] []))), (5, .y (.one (cv))), (12, .y (.one (.it it)))] : Env)) (fun (t : Go.Lg.Heap × Nat × Array Nat × List TI.T × C) => match t with | (H6, it, seen, D, cv) => (H6 : Go.Lg.Heap))
   (fun (t : Go.Lg.Heap × Nat × Array Nat × List TI.T × C) => match t with | (H6, it, seen, D, cv) => (On [R, pts tt (.obj [.mp l, .mp mo]), pts mo (mapO es ck), pts it (iterO mo ck seen), ownP NI cv (refOf q40 D)] H6 ∧ (Went enM es seen D) : Prop)) (H2, n1, #[], [], (.sl false true true [] 0)) (by kernel_rfl) (⟨(On.pick [0, 1, 2, 3, 4] [] (by kernel_rfl) hs4), went_nil _ _⟩) ?_
 rintro ⟨H6, it, seen, D, cv⟩ ⟨hs7, hW⟩
 show XWp _ _ _ _ [(1, .y (.one (.fn (.func 40) [] []))), (5, .y (.one (cv))), (12, .y (.one (.it it)))] H6 _
 refine XWp.nextE (L := M) (D := D) (eF := [(1, .y (.one (.fn (.func 40) [] []))), (5, .y (.one (cv))), (12, .y (.one (.it it))), (14, xb false)]) (eT := [(1, .y (.one (.fn (.func 40) [] []))), (5, .y (.one (cv))), (12, .y (.one (.it it))), (14, xb true)]) enM_inj ⟨rfl, rfl, rfl⟩ ⟨rfl, rfl, rfl⟩ rfl (On.at hs7 3 rfl) (On.at hs7 2 rfl) hB hW (by kernel_rfl) (fun _ _ => by kernel_rfl) ?_ ?_
 ·
  intro hp8
  refine XWp.seq ?_
  refine XWp.condF (by kernel_rfl) ?_
  refine XWp.exit ?_
  refine Eq.mpr (if_pos rfl) ?_
  obtain ⟨_, H9, hr10, rfl, hs11⟩ := sortI (A := an) rfl rfl _ (H6 : Go.Lg.Heap) (c := cv) (l := (refOf q40 D)) (lenRs hn hp8 _) (On.call [4] [0, 1, 2, 3] (by kernel_rfl) hs7)
  have hs11 : On [R, pts tt (.obj [.mp l, .mp mo]), pts mo (mapO es ck), pts it (iterO mo ck seen), ownP NI cv (isort ltI (refOf q40 D))] H9 := On.flat hs11
  refine XWp.regionSeq [(1, .tup [], H9)] [(5, .y (.one (cv)))] H9
    (cast (And.intro (ob_call (P := pg) (A := an) (H := H6) (g := 52) (vals := [.y (.one (cv))]) (xs0 := [.one (cv)]) (res := []) (ats := #[]) (ty := 0) (v := .tup []) (H' := H9) [.tmp 0] (by kernel_rfl) (by kernel_rfl) hr10 (by kernel_rfl)) trivial) (by kernel_rfl)) (by kernel_rfl) ?_
  refine XWp.gen (cs := [R, pts tt (.obj [.mp l, .mp mo]), pts mo (mapO es ck), pts it (iterO mo ck seen), ownP NI cv (isort ltI (refOf q40 D))]) hs11 ?_
  intro H12 hs13
  refine XWp.regionSeq [] [(4, .y (.one (cv)))] H12
    (cast trivial (by kernel_rfl)) (by kernel_rfl) ?_
  refine XWp.ret ?_
  refine ⟨Or.inr rfl, [.one (cv)], fun _ => by kernel_rfl, ?_⟩
  exact ⟨cv, rfl, by rw [← refsPerm hp8 q40]; exact (On.pick [0, 1, 2, 4] [3] (by kernel_rfl) hs13)⟩
 ·
  intro x14 d15 hx16 hd17 he18 hw19 hl20
  refine XWp.gen (cs := [R, pts tt (.obj [.mp l, .mp mo]), pts mo (mapO es ck), pts it (iterO mo ck (Array.push seen d15.born)), ownP NI cv (refOf q40 D)]) (On.put (iterO mo ck (Array.push seen d15.born)) hs7 3 rfl) ?_
  intro H21 hs22
  have hL23 : ((refOf q40 D).length : Int) ≤ D.length := lenRd _ _
  refine XWp.seq ?_
  refine XWp.condT (by kernel_rfl) ?_
  refine XWp.skip ?_
  refine XWp.block ?_
  obtain ⟨n24, hn24⟩ : ∃ n, n = List.length (H21 : Go.Lg.Heap) := ⟨_, rfl⟩
  refine XWp.regionSeq [(0, .tup [.one (vi x14.1), .agg [vi x14.2.1.1, vi x14.2.1.2.1, vi x14.2.2.1.1, vi x14.2.2.1.2.1]], H21), (3, .y (.one (.ptr n24 0)), (H21 ++ [.obj [vi 0, vi 0, vi 0, vi 0]])), (5, .tup [], (List.set (α := O) (H21 ++ [.obj [vi 0, vi 0, vi 0, vi 0]]) n24 (.obj [vi x14.2.1.1, vi x14.2.1.2.1, vi x14.2.2.1.1, vi x14.2.2.1.2.1])))] [(1, .y (.one (.fn (.func 40) [] []))), (5, .y (.one (cv))), (6, xi x14.1), (7, .y (.one (.ptr n24 0))), (12, .y (.one (.it it)))] (List.set (α := O) (H21 ++ [.obj [vi 0, vi 0, vi 0, vi 0]]) n24 (.obj [vi x14.2.1.1, vi x14.2.1.2.1, vi x14.2.2.1.1, vi x14.2.2.1.2.1]))
    (cast (And.intro (ob_entry (P := pg) (A := an) (H := H21) (ty := 0) (it := it) (k := .one (vi x14.1)) (v := .agg [vi x14.2.1.1, vi x14.2.1.2.1, vi x14.2.2.1.1, vi x14.2.2.1.2.1]) (On.at hs22 3 rfl) (On.at hs22 2 rfl) hB.2.1 hd17 (by rw [← (Prod.mk.inj he18).1]; rfl) (by rw [← (Prod.mk.inj he18).2]; exact ofV_PR x14.2)) (And.intro (ob_alloc (P := pg) (A := an) (H := H21) (t := 72) (ty := 0) (n := n24) (cs := [vi 0, vi 0, vi 0, vi 0]) hn24 (by kernel_rfl)) (And.intro (ob_store_ptr (P := pg) (A := an) (H := (H21 ++ [.obj [vi 0, vi 0, vi 0, vi 0]])) (t := 72) (ty := 0) (id := n24) (off := 0) (cs := [vi 0, vi 0, vi 0, vi 0]) (cs' := [vi x14.2.1.1, vi x14.2.1.2.1, vi x14.2.2.1.1, vi x14.2.2.1.2.1]) (v := .agg [vi x14.2.1.1, vi x14.2.1.2.1, vi x14.2.2.1.1, vi x14.2.2.1.2.1]) (On.at (On.new' hn24 (.obj [vi 0, vi 0, vi 0, vi 0]) hs22) 5 rfl) (by kernel_rfl) (by kernel_rfl) (by kernel_rfl)) trivial))) (by kernel_rfl)) (by kernel_rfl) ?_
  refine XWp.gen (cs := [R, pts tt (.obj [.mp l, .mp mo]), pts mo (mapO es ck), pts it (iterO mo ck (Array.push seen d15.born)), ownP NI cv (refOf q40 D), pts n24 (.obj [vi x14.2.1.1, vi x14.2.1.2.1, vi x14.2.2.1.1, vi x14.2.2.1.2.1])]) (On.put (.obj [vi x14.2.1.1, vi x14.2.1.2.1, vi x14.2.2.1.1, vi x14.2.2.1.2.1]) (On.new' hn24 (.obj [vi 0, vi 0, vi 0, vi 0]) hs22) 5 rfl) ?_
  intro H25 hs26
  obtain ⟨_, H27, hr28, rfl, hs29⟩ := cl40 _ (H25 : Go.Lg.Heap) x14.2 (On.call [] [0, 1, 2, 3, 4, 5] (by kernel_rfl) hs26)
  have hs29 : On [R, pts tt (.obj [.mp l, .mp mo]), pts mo (mapO es ck), pts it (iterO mo ck (Array.push seen d15.born)), ownP NI cv (refOf q40 D), pts n24 (.obj [vi x14.2.1.1, vi x14.2.1.2.1, vi x14.2.2.1.1, vi x14.2.2.1.2.1])] H27 := On.flat hs29
  refine XWp.regionSeq [(1, .y (.agg [vi x14.2.1.1, vi x14.2.1.2.1, vi x14.2.2.1.1, vi x14.2.2.1.2.1]), H25), (2, xb true, H27)] [(1, .y (.one (.fn (.func 40) [] []))), (5, .y (.one (cv))), (6, xi x14.1), (12, .y (.one (.it it))), (20, xb true)] H27
    (cast (And.intro (ob_load_ptr (P := pg) (A := an) (H := H25) (t := 72) (ty := 0) (id := n24) (off := 0) (n := 4) (cs := [vi x14.2.1.1, vi x14.2.1.2.1, vi x14.2.2.1.1, vi x14.2.2.1.2.1]) (cs' := [vi x14.2.1.1, vi x14.2.1.2.1, vi x14.2.2.1.1, vi x14.2.2.1.2.1]) (v := .agg [vi x14.2.1.1, vi x14.2.1.2.1, vi x14.2.2.1.1, vi x14.2.2.1.2.1]) (On.at hs26 5 rfl) (by kernel_rfl) (by kernel_rfl) (by kernel_rfl) (by kernel_rfl)) (And.intro (ob_callv (P := pg) (A := an) (H := H25) (g := 40) (first := []) (cap := []) (vals := [.y (.agg [vi x14.2.1.1, vi x14.2.1.2.1, vi x14.2.2.1.1, vi x14.2.2.1.2.1])]) (xs0 := [.agg [vi x14.2.1.1, vi x14.2.1.2.1, vi x14.2.2.1.1, vi x14.2.2.1.2.1]]) (res := [.one (vb true)]) (ats := #[]) (ty := 0) (v := xb true) (H' := (H27 : Go.Lg.Heap)) [.tmp 1] (by kernel_rfl) (by kernel_rfl) (by exact hr28) (by kernel_rfl)) trivial)) (by kernel_rfl)) (by kernel_rfl) ?_
  refine XWp.gen (cs := [R, pts tt (.obj [.mp l, .mp mo]), pts mo (mapO es ck), pts it (iterO mo ck (Array.push seen d15.born)), ownP NI cv (refOf q40 D), pts n24 (.obj [vi x14.2.1.1, vi x14.2.1.2.1, vi x14.2.2.1.1, vi x14.2.2.1.2.1])]) hs29 ?_
  intro H30 hs31
  refine XWp.condT (by kernel_rfl) ?_
  obtain ⟨cv32, H33, ho34, hs35⟩ := or_append_own (P := pg) (A := an) (s := NI) (t := 75) (u := 75) (el := 3) (by_ := 8) (z := [vi 0]) (ty := 0) (y := .sl false false true [vi x14.1] 1) (lm := ([x14.1])) (m := 1) hs31 4 rfl ((slCells_slO (H := H30) (s := NI) (b := false) (nil := false) (capd := true) (l := [x14.1]) (n := 1) (by first | rfl | omega | (simp only [List.length_nil]; omega) | (simp; done) | (simp; omega)))) (by kernel_rfl) (by kernel_rfl) (by kernel_rfl) (by kernel_rfl) (by kernel_rfl) (by kernel_rfl) (by kernel_rfl) (by first | rfl | omega | (simp only [List.length_nil]; omega) | (simp; done) | (simp; omega)) (by omega) (by omega)
  have hs35l : (((refOf q40 D) ++ ([x14.1])).length : Int) = (((refOf q40 D).length : Int) + 1) := by { first | omega | (simp only [List.length_append]; omega) | (simp; done) | (simp; omega) }
  refine XWp.regionK [(3, .y (.one (cv32)), H33)] [(1, .y (.one (.fn (.func 40) [] []))), (5, .y (.one (cv32))), (12, .y (.one (.it it)))] H33
    (cast (And.intro ho34 trivial) (by kernel_rfl)) (by kernel_rfl) ?_
  refine wG (cs := [R, pts tt (.obj [.mp l, .mp mo]), pts mo (mapO es ck), pts it (iterO mo ck (Array.push seen d15.born)), pts n24 (.obj [vi x14.2.1.1, vi x14.2.1.2.1, vi x14.2.2.1.1, vi x14.2.2.1.2.1]), ownP NI cv32 ((refOf q40 D) ++ ([x14.1]))]) hs35 ?_
  intro H36 hs37
  refine wK ?_
  exact ⟨(H36, it, (Array.push seen d15.born), (D ++ [x14]), cv32), by kernel_rfl, (⟨(On.pick [0, 1, 2, 3, 5] [4] (by kernel_rfl) (On.mono (A' := ownP NI cv32 (refOf q40 (D ++ [x14]))) 5 rfl (fun _ x => by rw [← (show ((refOf q40 D) ++ ([x14.1])) = (refOf q40 (D ++ [x14])) from by rw [refOf_snoc]; rfl)]; exact x) hs37)), hw19⟩), (by show (_ : Nat) < _; simp only [List.length_append, List.length_cons, List.length_nil]; omega)⟩
end Go.Proofs.Ytjhgjbagmkiibaa.E0
