/-
  Ties: New, Monitor, Demon, Watchers. (Printed by sx/r15t.py.)
-/
import Derived.Test.YtjhgjbagmkiibaaR15EA
section
namespace Go.Proofs.Ytjhgjbagmkiibaa.E
open Go.Lg
set_option linter.unusedVariables false
set_option maxRecDepth 100000
set_option maxHeartbeats 8000000
set_option linter.unusedSimpArgs false
def monX (M : List TI.T) (r : Int) (a b : PD.T) : Bool := if mayP a = true then (if mayP b = true then (if 1 ≤ r then (if r ≤ 4611686018427387903 then keyB r M else true) else true) else true) else true
def monE (L : List PR.T) (M : List TI.T) (r : Int) (a b : PD.T) : Int := if monX M r a b = true then 1 else if (1024 : Int) ≤ (L.length : Int) + (M.length : Int) then 150 else 0
def monM (L : List PR.T) (M : List TI.T) (r : Int) (a b : PD.T) : List TI.T := if monX M r a b = true then M else if (1024 : Int) ≤ (L.length : Int) + (M.length : Int) then M else mins M r (a, (b, ()))
def demE (M : List TI.T) (r : Int) : Int := if keyB r M = true then 0 else 3
def demM (M : List TI.T) (r : Int) : List TI.T := if keyB r M = true then mdel M r else M
def watOf (M : List TI.T) (a : PD.T) : List TT5.T := (isort ltI (refOf (q37 a) M)).map (toldOf M)
theorem monitor_ok (R : HP) (H : Go.Lg.Heap) (tt l mo : Nat) (L : List PR.T) (M : List TI.T) (r : Int) (a b : PD.T) (hs : On [R, pts tt (.obj [.mp l, .mp mo]), pts l (lnkO L), pts mo (monO M)] H) (hT : okTies L M = true) : ∃ rs H', Runs pg an 12 [.one (.ptr tt 0), .one (vi r), .agg [vi a.1, vi a.2.1], .agg [vi b.1, vi b.2.1]] H rs H' ∧ rs = [.one (vi (monE L M r a b))] ∧ On [R, pts tt (.obj [.mp l, .mp mo]), pts l (lnkO L), pts mo (monO (monM L M r a b))] H' := by
 obtain ⟨hLo, hL, hU, nL, nM⟩ := okTies_is hT
 have hLM := okTies_sum hT
 refine Runs.of (fn := Try.f12) Try.func12 rfl (by kernel_rfl) [(0, .y (.one (.ptr tt 0))), (1, xi r), (2, .y (.agg [vi a.1, vi a.2.1])), (3, .y (.agg [vi b.1, vi b.2.1]))] (by kernel_rfl) ?_
 obtain ⟨n1, hn1⟩ : ∃ n, n = List.length (H : Go.Lg.Heap) := ⟨_, rfl⟩
 obtain ⟨n2, hn2⟩ : ∃ n, n = List.length ((H ++ [.obj [vi a.1, vi a.2.1]]) : Go.Lg.Heap) := ⟨_, rfl⟩
 refine Wp.regionSeq [(0, .y (.one (.ptr n1 0)), (H ++ [.obj [vi a.1, vi a.2.1]])), (1, .y (.one (.ptr n2 0)), ((H ++ [.obj [vi a.1, vi a.2.1]]) ++ [.obj [vi b.1, vi b.2.1]]))] [(0, .y (.one (.ptr tt 0))), (1, xi r), (6, .y (.one (.ptr n1 0))), (7, .y (.one (.ptr n2 0)))] ((H ++ [.obj [vi a.1, vi a.2.1]]) ++ [.obj [vi b.1, vi b.2.1]])
   (cast (And.intro (ob_box (P := pg) (A := an) (H := H) (t := 24) (ty := 0) (n := n1) (v := .agg [vi a.1, vi a.2.1]) (cs := [vi a.1, vi a.2.1]) hn1 (by kernel_rfl) (by kernel_rfl) (by kernel_rfl)) (And.intro (ob_box (P := pg) (A := an) (H := (H ++ [.obj [vi a.1, vi a.2.1]])) (t := 24) (ty := 0) (n := n2) (v := .agg [vi b.1, vi b.2.1]) (cs := [vi b.1, vi b.2.1]) hn2 (by kernel_rfl) (by kernel_rfl) (by kernel_rfl)) trivial)) (by kernel_rfl)) (by kernel_rfl) ?_
 refine Wp.gen (cs := [R, pts tt (.obj [.mp l, .mp mo]), pts l (lnkO L), pts mo (monO M), pts n1 (.obj [vi a.1, vi a.2.1]), pts n2 (.obj [vi b.1, vi b.2.1])]) (On.new' hn2 (.obj [vi b.1, vi b.2.1]) (On.new' hn1 (.obj [vi a.1, vi a.2.1]) hs)) ?_
 intro H3 hs4
 refine Wp.seq ?_
 rcases Bool.eq_false_or_eq_true ((mayP a)) with c6 | c6
 ·
  obtain ⟨c6p, c6q, c6r, c6s⟩ := may_is c6
  rcases Bool.eq_false_or_eq_true ((mayP b)) with c9 | c9
  ·
   obtain ⟨c9p, c9q, c9r, c9s⟩ := may_is c9
   rcases ilt (r) (1) with c12 | c12
   ·
    have hcall13 : Runs pg an 29 [.one (.ptr tt 0)] H3 [.one (vb true)] H3 := by
     refine runs_of ?_
     refine Runs.of (fn := Try.f29) Try.func29 rfl (by kernel_rfl) [(0, .y (.one (.ptr tt 0)))] (by kernel_rfl) ?_
     refine Wp.regionSeq [] [(0, .y (.one (.ptr tt 0)))] H3
       (cast trivial (by kernel_rfl)) (by kernel_rfl) ?_
     refine Wp.regionSeq [(6, .y (.one (.mp l)), H3)] [(2, xb true)] H3
       (cast (And.intro (ob_load_ptr (P := pg) (A := an) (H := H3) (t := 58) (ty := 0) (id := tt) (off := 0) (n := 1) (cs := [.mp l, .mp mo]) (cs' := [.mp l]) (v := .one (.mp l)) (On.at hs4 1 rfl) (by kernel_rfl) (by kernel_rfl) (by kernel_rfl) (by kernel_rfl)) trivial) (by kernel_rfl)) (by kernel_rfl) ?_
     refine Wp.ret ?_
     exact ⟨Or.inr rfl, [.one (vb true)], (by kernel_rfl), ⟨rfl, rfl⟩⟩
    refine Wp.regionSeq [(1, xb true, H3), (4, .y (.agg [vi a.1, vi a.2.1]), H3), (5, xb true, H3), (9, .y (.agg [vi b.1, vi b.2.1]), H3), (10, xb true, H3), (15, xb true, H3)] [(0, .y (.one (.ptr tt 0))), (1, xi r), (6, .y (.one (.ptr n1 0))), (7, .y (.one (.ptr n2 0))), (31, xb true)] H3
      (cast (And.intro (ob_call (P := pg) (A := an) (H := H3) (g := 29) (vals := [.y (.one (.ptr tt 0))]) (xs0 := [.one (.ptr tt 0)]) (res := [.one (vb true)]) (ats := #[]) (ty := 0) (v := xb true) (H' := H3) [.tmp 0] (by kernel_rfl) (by kernel_rfl) hcall13 (by kernel_rfl)) (And.intro (ob_load_ptr (P := pg) (A := an) (H := H3) (t := 24) (ty := 0) (id := n1) (off := 0) (n := 2) (cs := [vi a.1, vi a.2.1]) (cs' := [vi a.1, vi a.2.1]) (v := .agg [vi a.1, vi a.2.1]) (On.at hs4 4 rfl) (by kernel_rfl) (by kernel_rfl) (by kernel_rfl) (by kernel_rfl)) (And.intro (ob_pure (P := pg) (A := an) (H := H3) (g := 32) (vals := [.y (.agg [vi a.1, vi a.2.1])]) (xs0 := [.agg [vi a.1, vi a.2.1]]) (xs1 := [.agg [vi a.1, vi a.2.1]]) (res := [.one (vb true)]) (ats := #[]) (ty := 0) (v := xb true) [.tmp 0] (by kernel_rfl) (by kernel_rfl) (snap_cons (by kernel_rfl) (snap_nil)) (by have h9 := may_ok a; rw [c6] at h9; exact h9) (by kernel_rfl)) (And.intro (ob_load_ptr (P := pg) (A := an) (H := H3) (t := 24) (ty := 0) (id := n2) (off := 0) (n := 2) (cs := [vi b.1, vi b.2.1]) (cs' := [vi b.1, vi b.2.1]) (v := .agg [vi b.1, vi b.2.1]) (On.at hs4 5 rfl) (by kernel_rfl) (by kernel_rfl) (by kernel_rfl) (by kernel_rfl)) (And.intro (ob_pure (P := pg) (A := an) (H := H3) (g := 32) (vals := [.y (.agg [vi b.1, vi b.2.1])]) (xs0 := [.agg [vi b.1, vi b.2.1]]) (xs1 := [.agg [vi b.1, vi b.2.1]]) (res := [.one (vb true)]) (ats := #[]) (ty := 0) (v := xb true) [.tmp 0] (by kernel_rfl) (by kernel_rfl) (snap_cons (by kernel_rfl) (snap_nil)) (by have h9 := may_ok b; rw [c9] at h9; exact h9) (by kernel_rfl)) (And.intro (ob_raw (P := pg) (A := an) (vals := [xi r, xi 1]) (H := H3) (op := .binOp .lss 3 (.tmp 0) (.tmp 1) 3) (ty := 0) (r := xb (decide (ILt (r) (1)))) (v := xb true) (by kernel_rfl) (congrArg (fun z => xb z) (decide_eq_true (by omega)))) trivial)))))) (by kernel_rfl)) (by kernel_rfl) ?_
    refine Wp.condT (by kernel_rfl) ?_
    refine Wp.regionSeq [] [(8, xi 1)] H3
      (cast trivial (by kernel_rfl)) (by kernel_rfl) ?_
    refine Wp.ret ?_
    refine ⟨Or.inr rfl, [.one (vi 1)], (by kernel_rfl), ?_⟩
    have g0 : ¬ ((1 : Int) ≤ r) := by omega
    have g1 : r ≤ (4611686018427387903 : Int) := by omega
    have e1 : 1 = monE L M r a b := by unfold monE monX; simp only [c6, c9, g0, g1, if_true, if_false, Bool.false_eq_true]
    have e2 : M = monM L M r a b := by unfold monM monX; simp only [c6, c9, g0, g1, if_true, if_false, Bool.false_eq_true]
    exact ⟨congrArg (fun z : Int => [Y.one (vi z)]) e1, by rw [← e2]; exact (On.pick [0, 1, 2, 3] [4, 5] (by kernel_rfl) hs4)⟩
   ·
    rcases ilt (4611686018427387903) (r) with c15 | c15
    ·
     have hcall16 : Runs pg an 29 [.one (.ptr tt 0)] H3 [.one (vb true)] H3 := by
      refine runs_of ?_
      refine Runs.of (fn := Try.f29) Try.func29 rfl (by kernel_rfl) [(0, .y (.one (.ptr tt 0)))] (by kernel_rfl) ?_
      refine Wp.regionSeq [] [(0, .y (.one (.ptr tt 0)))] H3
        (cast trivial (by kernel_rfl)) (by kernel_rfl) ?_
      refine Wp.regionSeq [(6, .y (.one (.mp l)), H3)] [(2, xb true)] H3
        (cast (And.intro (ob_load_ptr (P := pg) (A := an) (H := H3) (t := 58) (ty := 0) (id := tt) (off := 0) (n := 1) (cs := [.mp l, .mp mo]) (cs' := [.mp l]) (v := .one (.mp l)) (On.at hs4 1 rfl) (by kernel_rfl) (by kernel_rfl) (by kernel_rfl) (by kernel_rfl)) trivial) (by kernel_rfl)) (by kernel_rfl) ?_
      refine Wp.ret ?_
      exact ⟨Or.inr rfl, [.one (vb true)], (by kernel_rfl), ⟨rfl, rfl⟩⟩
     refine Wp.regionSeq [(1, xb true, H3), (4, .y (.agg [vi a.1, vi a.2.1]), H3), (5, xb true, H3), (9, .y (.agg [vi b.1, vi b.2.1]), H3), (10, xb true, H3), (15, xb false, H3), (19, xb true, H3)] [(0, .y (.one (.ptr tt 0))), (1, xi r), (6, .y (.one (.ptr n1 0))), (7, .y (.one (.ptr n2 0))), (31, xb true)] H3
       (cast (And.intro (ob_call (P := pg) (A := an) (H := H3) (g := 29) (vals := [.y (.one (.ptr tt 0))]) (xs0 := [.one (.ptr tt 0)]) (res := [.one (vb true)]) (ats := #[]) (ty := 0) (v := xb true) (H' := H3) [.tmp 0] (by kernel_rfl) (by kernel_rfl) hcall16 (by kernel_rfl)) (And.intro (ob_load_ptr (P := pg) (A := an) (H := H3) (t := 24) (ty := 0) (id := n1) (off := 0) (n := 2) (cs := [vi a.1, vi a.2.1]) (cs' := [vi a.1, vi a.2.1]) (v := .agg [vi a.1, vi a.2.1]) (On.at hs4 4 rfl) (by kernel_rfl) (by kernel_rfl) (by kernel_rfl) (by kernel_rfl)) (And.intro (ob_pure (P := pg) (A := an) (H := H3) (g := 32) (vals := [.y (.agg [vi a.1, vi a.2.1])]) (xs0 := [.agg [vi a.1, vi a.2.1]]) (xs1 := [.agg [vi a.1, vi a.2.1]]) (res := [.one (vb true)]) (ats := #[]) (ty := 0) (v := xb true) [.tmp 0] (by kernel_rfl) (by kernel_rfl) (snap_cons (by kernel_rfl) (snap_nil)) (by have h9 := may_ok a; rw [c6] at h9; exact h9) (by kernel_rfl)) (And.intro (ob_load_ptr (P := pg) (A := an) (H := H3) (t := 24) (ty := 0) (id := n2) (off := 0) (n := 2) (cs := [vi b.1, vi b.2.1]) (cs' := [vi b.1, vi b.2.1]) (v := .agg [vi b.1, vi b.2.1]) (On.at hs4 5 rfl) (by kernel_rfl) (by kernel_rfl) (by kernel_rfl) (by kernel_rfl)) (And.intro (ob_pure (P := pg) (A := an) (H := H3) (g := 32) (vals := [.y (.agg [vi b.1, vi b.2.1])]) (xs0 := [.agg [vi b.1, vi b.2.1]]) (xs1 := [.agg [vi b.1, vi b.2.1]]) (res := [.one (vb true)]) (ats := #[]) (ty := 0) (v := xb true) [.tmp 0] (by kernel_rfl) (by kernel_rfl) (snap_cons (by kernel_rfl) (snap_nil)) (by have h9 := may_ok b; rw [c9] at h9; exact h9) (by kernel_rfl)) (And.intro (ob_raw (P := pg) (A := an) (vals := [xi r, xi 1]) (H := H3) (op := .binOp .lss 3 (.tmp 0) (.tmp 1) 3) (ty := 0) (r := xb (decide (ILt (r) (1)))) (v := xb false) (by kernel_rfl) (congrArg (fun z => xb z) (decide_eq_false (by omega)))) (And.intro (ob_raw (P := pg) (A := an) (vals := [xi r, xi 4611686018427387903]) (H := H3) (op := .binOp .gtr 3 (.tmp 0) (.tmp 1) 3) (ty := 0) (r := xb (decide (ILt (4611686018427387903) (r)))) (v := xb true) (by kernel_rfl) (congrArg (fun z => xb z) (decide_eq_true (by omega)))) trivial))))))) (by kernel_rfl)) (by kernel_rfl) ?_
     refine Wp.condT (by kernel_rfl) ?_
     refine Wp.regionSeq [] [(8, xi 1)] H3
       (cast trivial (by kernel_rfl)) (by kernel_rfl) ?_
     refine Wp.ret ?_
     refine ⟨Or.inr rfl, [.one (vi 1)], (by kernel_rfl), ?_⟩
     have g0 : (1 : Int) ≤ r := by omega
     have g1 : ¬ (r ≤ (4611686018427387903 : Int)) := by omega
     have e1 : 1 = monE L M r a b := by unfold monE monX; simp only [c6, c9, g0, g1, if_true, if_false, Bool.false_eq_true]
     have e2 : M = monM L M r a b := by unfold monM monX; simp only [c6, c9, g0, g1, if_true, if_false, Bool.false_eq_true]
     exact ⟨congrArg (fun z : Int => [Y.one (vi z)]) e1, by rw [← e2]; exact (On.pick [0, 1, 2, 3] [4, 5] (by kernel_rfl) hs4)⟩
    ·
     have hcall17 : Runs pg an 29 [.one (.ptr tt 0)] H3 [.one (vb true)] H3 := by
      refine runs_of ?_
      refine Runs.of (fn := Try.f29) Try.func29 rfl (by kernel_rfl) [(0, .y (.one (.ptr tt 0)))] (by kernel_rfl) ?_
      refine Wp.regionSeq [] [(0, .y (.one (.ptr tt 0)))] H3
        (cast trivial (by kernel_rfl)) (by kernel_rfl) ?_
      refine Wp.regionSeq [(6, .y (.one (.mp l)), H3)] [(2, xb true)] H3
        (cast (And.intro (ob_load_ptr (P := pg) (A := an) (H := H3) (t := 58) (ty := 0) (id := tt) (off := 0) (n := 1) (cs := [.mp l, .mp mo]) (cs' := [.mp l]) (v := .one (.mp l)) (On.at hs4 1 rfl) (by kernel_rfl) (by kernel_rfl) (by kernel_rfl) (by kernel_rfl)) trivial) (by kernel_rfl)) (by kernel_rfl) ?_
      refine Wp.ret ?_
      exact ⟨Or.inr rfl, [.one (vb true)], (by kernel_rfl), ⟨rfl, rfl⟩⟩
     refine Wp.regionSeq [(1, xb true, H3), (4, .y (.agg [vi a.1, vi a.2.1]), H3), (5, xb true, H3), (9, .y (.agg [vi b.1, vi b.2.1]), H3), (10, xb true, H3), (15, xb false, H3), (19, xb false, H3)] [(0, .y (.one (.ptr tt 0))), (1, xi r), (6, .y (.one (.ptr n1 0))), (7, .y (.one (.ptr n2 0))), (31, xb false)] H3
       (cast (And.intro (ob_call (P := pg) (A := an) (H := H3) (g := 29) (vals := [.y (.one (.ptr tt 0))]) (xs0 := [.one (.ptr tt 0)]) (res := [.one (vb true)]) (ats := #[]) (ty := 0) (v := xb true) (H' := H3) [.tmp 0] (by kernel_rfl) (by kernel_rfl) hcall17 (by kernel_rfl)) (And.intro (ob_load_ptr (P := pg) (A := an) (H := H3) (t := 24) (ty := 0) (id := n1) (off := 0) (n := 2) (cs := [vi a.1, vi a.2.1]) (cs' := [vi a.1, vi a.2.1]) (v := .agg [vi a.1, vi a.2.1]) (On.at hs4 4 rfl) (by kernel_rfl) (by kernel_rfl) (by kernel_rfl) (by kernel_rfl)) (And.intro (ob_pure (P := pg) (A := an) (H := H3) (g := 32) (vals := [.y (.agg [vi a.1, vi a.2.1])]) (xs0 := [.agg [vi a.1, vi a.2.1]]) (xs1 := [.agg [vi a.1, vi a.2.1]]) (res := [.one (vb true)]) (ats := #[]) (ty := 0) (v := xb true) [.tmp 0] (by kernel_rfl) (by kernel_rfl) (snap_cons (by kernel_rfl) (snap_nil)) (by have h9 := may_ok a; rw [c6] at h9; exact h9) (by kernel_rfl)) (And.intro (ob_load_ptr (P := pg) (A := an) (H := H3) (t := 24) (ty := 0) (id := n2) (off := 0) (n := 2) (cs := [vi b.1, vi b.2.1]) (cs' := [vi b.1, vi b.2.1]) (v := .agg [vi b.1, vi b.2.1]) (On.at hs4 5 rfl) (by kernel_rfl) (by kernel_rfl) (by kernel_rfl) (by kernel_rfl)) (And.intro (ob_pure (P := pg) (A := an) (H := H3) (g := 32) (vals := [.y (.agg [vi b.1, vi b.2.1])]) (xs0 := [.agg [vi b.1, vi b.2.1]]) (xs1 := [.agg [vi b.1, vi b.2.1]]) (res := [.one (vb true)]) (ats := #[]) (ty := 0) (v := xb true) [.tmp 0] (by kernel_rfl) (by kernel_rfl) (snap_cons (by kernel_rfl) (snap_nil)) (by have h9 := may_ok b; rw [c9] at h9; exact h9) (by kernel_rfl)) (And.intro (ob_raw (P := pg) (A := an) (vals := [xi r, xi 1]) (H := H3) (op := .binOp .lss 3 (.tmp 0) (.tmp 1) 3) (ty := 0) (r := xb (decide (ILt (r) (1)))) (v := xb false) (by kernel_rfl) (congrArg (fun z => xb z) (decide_eq_false (by omega)))) (And.intro (ob_raw (P := pg) (A := an) (vals := [xi r, xi 4611686018427387903]) (H := H3) (op := .binOp .gtr 3 (.tmp 0) (.tmp 1) 3) (ty := 0) (r := xb (decide (ILt (4611686018427387903) (r)))) (v := xb false) (by kernel_rfl) (congrArg (fun z => xb z) (decide_eq_false (by omega)))) trivial))))))) (by kernel_rfl)) (by kernel_rfl) ?_
     refine Wp.condF (by kernel_rfl) ?_
     refine Wp.skip ?_
     refine Wp.seq ?_
     rcases Bool.eq_false_or_eq_true ((keyB r M)) with c18 | c18
     ·
      obtain ⟨w19, hw20, hm21⟩ := mkey (ms := M) (r := r) hU c18
      obtain ⟨n22, hn22⟩ : ∃ n, n = List.length (H3 : Go.Lg.Heap) := ⟨_, rfl⟩
      refine Wp.regionSeq [(3, .y (.one (.mp mo)), H3), (5, .tup [.agg [vi w19.1.1, vi w19.1.2.1, vi w19.2.1.1, vi w19.2.1.2.1], .one (vb true)], H3), (9, .y (.one (.ptr n22 0)), (H3 ++ [.obj [vi 0, vi 0, vi 0, vi 0]])), (10, .tup [], (List.set (α := O) (H3 ++ [.obj [vi 0, vi 0, vi 0, vi 0]]) n22 (.obj [vi w19.1.1, vi w19.1.2.1, vi w19.2.1.1, vi w19.2.1.2.1])))] [(0, .y (.one (.ptr tt 0))), (1, xi r), (6, .y (.one (.ptr n1 0))), (7, .y (.one (.ptr n2 0))), (10, xb true)] (List.set (α := O) (H3 ++ [.obj [vi 0, vi 0, vi 0, vi 0]]) n22 (.obj [vi w19.1.1, vi w19.1.2.1, vi w19.2.1.1, vi w19.2.1.2.1]))
        (cast (And.intro (ob_load_ptr (P := pg) (A := an) (H := H3) (t := 59) (ty := 0) (id := tt) (off := 1) (n := 1) (cs := [.mp l, .mp mo]) (cs' := [.mp mo]) (v := .one (.mp mo)) (On.at hs4 1 rfl) (by kernel_rfl) (by kernel_rfl) (by kernel_rfl) (by kernel_rfl)) (And.intro (mo_hit2 (A := an) (H := H3) (id := mo) (ms := M) (r := r) (w := w19) (On.at hs4 3 rfl) hw20) (And.intro (ob_alloc (P := pg) (A := an) (H := H3) (t := 72) (ty := 0) (n := n22) (cs := [vi 0, vi 0, vi 0, vi 0]) hn22 (by kernel_rfl)) (And.intro (ob_store_ptr (P := pg) (A := an) (H := (H3 ++ [.obj [vi 0, vi 0, vi 0, vi 0]])) (t := 72) (ty := 0) (id := n22) (off := 0) (cs := [vi 0, vi 0, vi 0, vi 0]) (cs' := [vi w19.1.1, vi w19.1.2.1, vi w19.2.1.1, vi w19.2.1.2.1]) (v := .agg [vi w19.1.1, vi w19.1.2.1, vi w19.2.1.1, vi w19.2.1.2.1]) (On.at (On.new' hn22 (.obj [vi 0, vi 0, vi 0, vi 0]) hs4) 6 rfl) (by kernel_rfl) (by kernel_rfl) (by kernel_rfl)) trivial)))) (by kernel_rfl)) (by kernel_rfl) ?_
      refine Wp.gen (cs := [R, pts tt (.obj [.mp l, .mp mo]), pts l (lnkO L), pts mo (monO M), pts n1 (.obj [vi a.1, vi a.2.1]), pts n2 (.obj [vi b.1, vi b.2.1]), pts n22 (.obj [vi w19.1.1, vi w19.1.2.1, vi w19.2.1.1, vi w19.2.1.2.1])]) (On.put (.obj [vi w19.1.1, vi w19.1.2.1, vi w19.2.1.1, vi w19.2.1.2.1]) (On.new' hn22 (.obj [vi 0, vi 0, vi 0, vi 0]) hs4) 6 rfl) ?_
      intro H23 hs24
      refine Wp.regionSeq [] [(0, .y (.one (.ptr tt 0))), (1, xi r), (6, .y (.one (.ptr n1 0))), (7, .y (.one (.ptr n2 0))), (41, xb true)] H23
        (cast trivial (by kernel_rfl)) (by kernel_rfl) ?_
      refine Wp.condT (by kernel_rfl) ?_
      refine Wp.regionSeq [] [(8, xi 1)] H23
        (cast trivial (by kernel_rfl)) (by kernel_rfl) ?_
      refine Wp.ret ?_
      refine ⟨Or.inr rfl, [.one (vi 1)], (by kernel_rfl), ?_⟩
      have g0 : (1 : Int) ≤ r := by omega
      have g1 : r ≤ (4611686018427387903 : Int) := by omega
      have e1 : 1 = monE L M r a b := by unfold monE monX; simp only [c6, c9, c18, g0, g1, if_true, if_false, Bool.false_eq_true]
      have e2 : M = monM L M r a b := by unfold monM monX; simp only [c6, c9, c18, g0, g1, if_true, if_false, Bool.false_eq_true]
      exact ⟨congrArg (fun z : Int => [Y.one (vi z)]) e1, by rw [← e2]; exact (On.pick [0, 1, 2, 3] [4, 5, 6] (by kernel_rfl) hs24)⟩
     ·
      obtain ⟨n25, hn25⟩ : ∃ n, n = List.length (H3 : Go.Lg.Heap) := ⟨_, rfl⟩
      refine Wp.regionSeq [(3, .y (.one (.mp mo)), H3), (5, .tup [.agg [vi 0, vi 0, vi 0, vi 0], .one (vb false)], H3), (9, .y (.one (.ptr n25 0)), (H3 ++ [.obj [vi 0, vi 0, vi 0, vi 0]])), (10, .tup [], (List.set (α := O) (H3 ++ [.obj [vi 0, vi 0, vi 0, vi 0]]) n25 (.obj [vi 0, vi 0, vi 0, vi 0])))] [(0, .y (.one (.ptr tt 0))), (1, xi r), (6, .y (.one (.ptr n1 0))), (7, .y (.one (.ptr n2 0))), (10, xb false)] (List.set (α := O) (H3 ++ [.obj [vi 0, vi 0, vi 0, vi 0]]) n25 (.obj [vi 0, vi 0, vi 0, vi 0]))
        (cast (And.intro (ob_load_ptr (P := pg) (A := an) (H := H3) (t := 59) (ty := 0) (id := tt) (off := 1) (n := 1) (cs := [.mp l, .mp mo]) (cs' := [.mp mo]) (v := .one (.mp mo)) (On.at hs4 1 rfl) (by kernel_rfl) (by kernel_rfl) (by kernel_rfl) (by kernel_rfl)) (And.intro (mo_miss2 (A := an) (H := H3) (id := mo) (ms := M) (r := r) (On.at hs4 3 rfl) c18) (And.intro (ob_alloc (P := pg) (A := an) (H := H3) (t := 72) (ty := 0) (n := n25) (cs := [vi 0, vi 0, vi 0, vi 0]) hn25 (by kernel_rfl)) (And.intro (ob_store_ptr (P := pg) (A := an) (H := (H3 ++ [.obj [vi 0, vi 0, vi 0, vi 0]])) (t := 72) (ty := 0) (id := n25) (off := 0) (cs := [vi 0, vi 0, vi 0, vi 0]) (cs' := [vi 0, vi 0, vi 0, vi 0]) (v := .agg [vi 0, vi 0, vi 0, vi 0]) (On.at (On.new' hn25 (.obj [vi 0, vi 0, vi 0, vi 0]) hs4) 6 rfl) (by kernel_rfl) (by kernel_rfl) (by kernel_rfl)) trivial)))) (by kernel_rfl)) (by kernel_rfl) ?_
      refine Wp.gen (cs := [R, pts tt (.obj [.mp l, .mp mo]), pts l (lnkO L), pts mo (monO M), pts n1 (.obj [vi a.1, vi a.2.1]), pts n2 (.obj [vi b.1, vi b.2.1]), pts n25 (.obj [vi 0, vi 0, vi 0, vi 0])]) (On.put (.obj [vi 0, vi 0, vi 0, vi 0]) (On.new' hn25 (.obj [vi 0, vi 0, vi 0, vi 0]) hs4) 6 rfl) ?_
      intro H26 hs27
      refine Wp.regionSeq [] [(0, .y (.one (.ptr tt 0))), (1, xi r), (6, .y (.one (.ptr n1 0))), (7, .y (.one (.ptr n2 0))), (41, xb false)] H26
        (cast trivial (by kernel_rfl)) (by kernel_rfl) ?_
      refine Wp.condF (by kernel_rfl) ?_
      refine Wp.skip ?_
      refine Wp.seq ?_
      rcases ile (1024) (((L.length : Int) + (M.length : Int))) with c29 | c29
      ·
       have hcall30 : Runs pg an 28 [.one (.ptr tt 0)] H26 [.one (vb true)] H26 := by
        refine runs_of ?_
        refine Runs.of (fn := Try.f28) Try.func28 rfl (by kernel_rfl) [(0, .y (.one (.ptr tt 0)))] (by kernel_rfl) ?_
        refine Wp.regionSeq [] [(0, .y (.one (.ptr tt 0)))] H26
          (cast trivial (by kernel_rfl)) (by kernel_rfl) ?_
        refine Wp.regionSeq [(3, .y (.one (.mp l)), H26), (4, xi (L.length : Int), H26), (8, .y (.one (.mp mo)), H26), (9, xi (M.length : Int), H26), (10, xi ((L.length : Int) + (M.length : Int)), H26), (11, xb true, H26)] [(2, xb true)] H26
          (cast (And.intro (ob_load_ptr (P := pg) (A := an) (H := H26) (t := 58) (ty := 0) (id := tt) (off := 0) (n := 1) (cs := [.mp l, .mp mo]) (cs' := [.mp l]) (v := .one (.mp l)) (On.at hs27 1 rfl) (by kernel_rfl) (by kernel_rfl) (by kernel_rfl) (by kernel_rfl)) (And.intro (lk_len (A := an) (H := H26) (id := l) (es := L) (On.at hs27 2 rfl) (ts := #[58]) rfl rfl) (And.intro (ob_load_ptr (P := pg) (A := an) (H := H26) (t := 59) (ty := 0) (id := tt) (off := 1) (n := 1) (cs := [.mp l, .mp mo]) (cs' := [.mp mo]) (v := .one (.mp mo)) (On.at hs27 1 rfl) (by kernel_rfl) (by kernel_rfl) (by kernel_rfl) (by kernel_rfl)) (And.intro (mo_len (A := an) (H := H26) (id := mo) (ms := M) (On.at hs27 3 rfl) (ts := #[59]) rfl rfl) (And.intro (ob_raw (P := pg) (A := an) (vals := [xi (L.length : Int), xi (M.length : Int)]) (H := H26) (op := .binOp .add 3 (.tmp 0) (.tmp 1) 3) (ty := 0) (r := xi (IntKind.wrap .i64 ((L.length : Int) + (M.length : Int)))) (v := xi ((L.length : Int) + (M.length : Int))) (by kernel_rfl) (congrArg (fun z => xi z) ((wrap64 (by omega)).trans (by omega)))) (And.intro (ob_raw (P := pg) (A := an) (vals := [xi ((L.length : Int) + (M.length : Int)), xi 1024]) (H := H26) (op := .binOp .geq 3 (.tmp 0) (.tmp 1) 3) (ty := 0) (r := xb (decide (ILe (1024) (((L.length : Int) + (M.length : Int)))))) (v := xb true) (by kernel_rfl) (congrArg (fun z => xb z) (decide_eq_true (by omega)))) trivial)))))) (by kernel_rfl)) (by kernel_rfl) ?_
        refine Wp.ret ?_
        exact ⟨Or.inr rfl, [.one (vb true)], (by kernel_rfl), ⟨rfl, rfl⟩⟩
       refine Wp.regionSeq [(1, xb true, H26)] [(0, .y (.one (.ptr tt 0))), (1, xi r), (6, .y (.one (.ptr n1 0))), (7, .y (.one (.ptr n2 0))), (43, xb true)] H26
         (cast (And.intro (ob_call (P := pg) (A := an) (H := H26) (g := 28) (vals := [.y (.one (.ptr tt 0))]) (xs0 := [.one (.ptr tt 0)]) (res := [.one (vb true)]) (ats := #[]) (ty := 0) (v := xb true) (H' := H26) [.tmp 0] (by kernel_rfl) (by kernel_rfl) hcall30 (by kernel_rfl)) trivial) (by kernel_rfl)) (by kernel_rfl) ?_
       refine Wp.condT (by kernel_rfl) ?_
       refine Wp.regionSeq [] [(8, xi 150)] H26
         (cast trivial (by kernel_rfl)) (by kernel_rfl) ?_
       refine Wp.ret ?_
       refine ⟨Or.inr rfl, [.one (vi 150)], (by kernel_rfl), ?_⟩
       have g0 : (1 : Int) ≤ r := by omega
       have g1 : r ≤ (4611686018427387903 : Int) := by omega
       have g2 : (1024 : Int) ≤ (L.length : Int) + (M.length : Int) := by omega
       have e1 : 150 = monE L M r a b := by unfold monE monX; simp only [c6, c9, c18, g0, g1, g2, if_true, if_false, Bool.false_eq_true]
       have e2 : M = monM L M r a b := by unfold monM monX; simp only [c6, c9, c18, g0, g1, g2, if_true, if_false, Bool.false_eq_true]
       exact ⟨congrArg (fun z : Int => [Y.one (vi z)]) e1, by rw [← e2]; exact (On.pick [0, 1, 2, 3] [4, 5, 6] (by kernel_rfl) hs27)⟩
      ·
       have hcall31 : Runs pg an 28 [.one (.ptr tt 0)] H26 [.one (vb false)] H26 := by
        refine runs_of ?_
        refine Runs.of (fn := Try.f28) Try.func28 rfl (by kernel_rfl) [(0, .y (.one (.ptr tt 0)))] (by kernel_rfl) ?_
        refine Wp.regionSeq [] [(0, .y (.one (.ptr tt 0)))] H26
          (cast trivial (by kernel_rfl)) (by kernel_rfl) ?_
        refine Wp.regionSeq [(3, .y (.one (.mp l)), H26), (4, xi (L.length : Int), H26), (8, .y (.one (.mp mo)), H26), (9, xi (M.length : Int), H26), (10, xi ((L.length : Int) + (M.length : Int)), H26), (11, xb false, H26)] [(2, xb false)] H26
          (cast (And.intro (ob_load_ptr (P := pg) (A := an) (H := H26) (t := 58) (ty := 0) (id := tt) (off := 0) (n := 1) (cs := [.mp l, .mp mo]) (cs' := [.mp l]) (v := .one (.mp l)) (On.at hs27 1 rfl) (by kernel_rfl) (by kernel_rfl) (by kernel_rfl) (by kernel_rfl)) (And.intro (lk_len (A := an) (H := H26) (id := l) (es := L) (On.at hs27 2 rfl) (ts := #[58]) rfl rfl) (And.intro (ob_load_ptr (P := pg) (A := an) (H := H26) (t := 59) (ty := 0) (id := tt) (off := 1) (n := 1) (cs := [.mp l, .mp mo]) (cs' := [.mp mo]) (v := .one (.mp mo)) (On.at hs27 1 rfl) (by kernel_rfl) (by kernel_rfl) (by kernel_rfl) (by kernel_rfl)) (And.intro (mo_len (A := an) (H := H26) (id := mo) (ms := M) (On.at hs27 3 rfl) (ts := #[59]) rfl rfl) (And.intro (ob_raw (P := pg) (A := an) (vals := [xi (L.length : Int), xi (M.length : Int)]) (H := H26) (op := .binOp .add 3 (.tmp 0) (.tmp 1) 3) (ty := 0) (r := xi (IntKind.wrap .i64 ((L.length : Int) + (M.length : Int)))) (v := xi ((L.length : Int) + (M.length : Int))) (by kernel_rfl) (congrArg (fun z => xi z) ((wrap64 (by omega)).trans (by omega)))) (And.intro (ob_raw (P := pg) (A := an) (vals := [xi ((L.length : Int) + (M.length : Int)), xi 1024]) (H := H26) (op := .binOp .geq 3 (.tmp 0) (.tmp 1) 3) (ty := 0) (r := xb (decide (ILe (1024) (((L.length : Int) + (M.length : Int)))))) (v := xb false) (by kernel_rfl) (congrArg (fun z => xb z) (decide_eq_false (by omega)))) trivial)))))) (by kernel_rfl)) (by kernel_rfl) ?_
        refine Wp.ret ?_
        exact ⟨Or.inr rfl, [.one (vb false)], (by kernel_rfl), ⟨rfl, rfl⟩⟩
       refine Wp.regionSeq [(1, xb false, H26)] [(0, .y (.one (.ptr tt 0))), (1, xi r), (6, .y (.one (.ptr n1 0))), (7, .y (.one (.ptr n2 0))), (43, xb false)] H26
         (cast (And.intro (ob_call (P := pg) (A := an) (H := H26) (g := 28) (vals := [.y (.one (.ptr tt 0))]) (xs0 := [.one (.ptr tt 0)]) (res := [.one (vb false)]) (ats := #[]) (ty := 0) (v := xb false) (H' := H26) [.tmp 0] (by kernel_rfl) (by kernel_rfl) hcall31 (by kernel_rfl)) trivial) (by kernel_rfl)) (by kernel_rfl) ?_
       refine Wp.condF (by kernel_rfl) ?_
       refine Wp.skip ?_
       refine Wp.regionSeq [(3, .y (.one (.mp mo)), H26), (5, .y (.agg [vi a.1, vi a.2.1]), H26), (6, .y (.agg [vi b.1, vi b.2.1]), H26), (8, .tup [], (List.set (α := O) H26 mo (monO (mins M r (a, (b, ()))))))] [] (List.set (α := O) H26 mo (monO (mins M r (a, (b, ())))))
         (cast (And.intro (ob_load_ptr (P := pg) (A := an) (H := H26) (t := 59) (ty := 0) (id := tt) (off := 1) (n := 1) (cs := [.mp l, .mp mo]) (cs' := [.mp mo]) (v := .one (.mp mo)) (On.at hs27 1 rfl) (by kernel_rfl) (by kernel_rfl) (by kernel_rfl) (by kernel_rfl)) (And.intro (ob_load_ptr (P := pg) (A := an) (H := H26) (t := 24) (ty := 0) (id := n1) (off := 0) (n := 2) (cs := [vi a.1, vi a.2.1]) (cs' := [vi a.1, vi a.2.1]) (v := .agg [vi a.1, vi a.2.1]) (On.at hs27 4 rfl) (by kernel_rfl) (by kernel_rfl) (by kernel_rfl) (by kernel_rfl)) (And.intro (ob_load_ptr (P := pg) (A := an) (H := H26) (t := 24) (ty := 0) (id := n2) (off := 0) (n := 2) (cs := [vi b.1, vi b.2.1]) (cs' := [vi b.1, vi b.2.1]) (v := .agg [vi b.1, vi b.2.1]) (On.at hs27 5 rfl) (by kernel_rfl) (by kernel_rfl) (by kernel_rfl) (by kernel_rfl)) (And.intro (mo_put (A := an) (H := H26) (id := mo) (ms := M) (r := r) (w := (a, (b, ()))) (On.at hs27 3 rfl) hU) trivial)))) (by kernel_rfl)) (by kernel_rfl) ?_
       refine Wp.gen (cs := [R, pts tt (.obj [.mp l, .mp mo]), pts l (lnkO L), pts mo (monO (mins M r (a, (b, ())))), pts n1 (.obj [vi a.1, vi a.2.1]), pts n2 (.obj [vi b.1, vi b.2.1]), pts n25 (.obj [vi 0, vi 0, vi 0, vi 0])]) (On.put (monO (mins M r (a, (b, ())))) hs27 3 rfl) ?_
       intro H32 hs33
       refine Wp.regionSeq [] [(8, xi 0)] H32
         (cast trivial (by kernel_rfl)) (by kernel_rfl) ?_
       refine Wp.ret ?_
       refine ⟨Or.inr rfl, [.one (vi 0)], (by kernel_rfl), ?_⟩
       have g0 : (1 : Int) ≤ r := by omega
       have g1 : r ≤ (4611686018427387903 : Int) := by omega
       have g2 : ¬ ((1024 : Int) ≤ (L.length : Int) + (M.length : Int)) := by omega
       have e1 : 0 = monE L M r a b := by unfold monE monX; simp only [c6, c9, c18, g0, g1, g2, if_true, if_false, Bool.false_eq_true]
       have e2 : (mins M r (a, (b, ()))) = monM L M r a b := by unfold monM monX; simp only [c6, c9, c18, g0, g1, g2, if_true, if_false, Bool.false_eq_true]
       exact ⟨congrArg (fun z : Int => [Y.one (vi z)]) e1, by rw [← e2]; exact (On.pick [0, 1, 2, 3] [4, 5, 6] (by kernel_rfl) hs33)⟩
  ·
   have hcall34 : Runs pg an 29 [.one (.ptr tt 0)] H3 [.one (vb true)] H3 := by
    refine runs_of ?_
    refine Runs.of (fn := Try.f29) Try.func29 rfl (by kernel_rfl) [(0, .y (.one (.ptr tt 0)))] (by kernel_rfl) ?_
    refine Wp.regionSeq [] [(0, .y (.one (.ptr tt 0)))] H3
      (cast trivial (by kernel_rfl)) (by kernel_rfl) ?_
    refine Wp.regionSeq [(6, .y (.one (.mp l)), H3)] [(2, xb true)] H3
      (cast (And.intro (ob_load_ptr (P := pg) (A := an) (H := H3) (t := 58) (ty := 0) (id := tt) (off := 0) (n := 1) (cs := [.mp l, .mp mo]) (cs' := [.mp l]) (v := .one (.mp l)) (On.at hs4 1 rfl) (by kernel_rfl) (by kernel_rfl) (by kernel_rfl) (by kernel_rfl)) trivial) (by kernel_rfl)) (by kernel_rfl) ?_
    refine Wp.ret ?_
    exact ⟨Or.inr rfl, [.one (vb true)], (by kernel_rfl), ⟨rfl, rfl⟩⟩
   refine Wp.regionSeq [(1, xb true, H3), (4, .y (.agg [vi a.1, vi a.2.1]), H3), (5, xb true, H3), (9, .y (.agg [vi b.1, vi b.2.1]), H3), (10, xb false, H3)] [(0, .y (.one (.ptr tt 0))), (1, xi r), (6, .y (.one (.ptr n1 0))), (7, .y (.one (.ptr n2 0))), (31, xb true)] H3
     (cast (And.intro (ob_call (P := pg) (A := an) (H := H3) (g := 29) (vals := [.y (.one (.ptr tt 0))]) (xs0 := [.one (.ptr tt 0)]) (res := [.one (vb true)]) (ats := #[]) (ty := 0) (v := xb true) (H' := H3) [.tmp 0] (by kernel_rfl) (by kernel_rfl) hcall34 (by kernel_rfl)) (And.intro (ob_load_ptr (P := pg) (A := an) (H := H3) (t := 24) (ty := 0) (id := n1) (off := 0) (n := 2) (cs := [vi a.1, vi a.2.1]) (cs' := [vi a.1, vi a.2.1]) (v := .agg [vi a.1, vi a.2.1]) (On.at hs4 4 rfl) (by kernel_rfl) (by kernel_rfl) (by kernel_rfl) (by kernel_rfl)) (And.intro (ob_pure (P := pg) (A := an) (H := H3) (g := 32) (vals := [.y (.agg [vi a.1, vi a.2.1])]) (xs0 := [.agg [vi a.1, vi a.2.1]]) (xs1 := [.agg [vi a.1, vi a.2.1]]) (res := [.one (vb true)]) (ats := #[]) (ty := 0) (v := xb true) [.tmp 0] (by kernel_rfl) (by kernel_rfl) (snap_cons (by kernel_rfl) (snap_nil)) (by have h9 := may_ok a; rw [c6] at h9; exact h9) (by kernel_rfl)) (And.intro (ob_load_ptr (P := pg) (A := an) (H := H3) (t := 24) (ty := 0) (id := n2) (off := 0) (n := 2) (cs := [vi b.1, vi b.2.1]) (cs' := [vi b.1, vi b.2.1]) (v := .agg [vi b.1, vi b.2.1]) (On.at hs4 5 rfl) (by kernel_rfl) (by kernel_rfl) (by kernel_rfl) (by kernel_rfl)) (And.intro (ob_pure (P := pg) (A := an) (H := H3) (g := 32) (vals := [.y (.agg [vi b.1, vi b.2.1])]) (xs0 := [.agg [vi b.1, vi b.2.1]]) (xs1 := [.agg [vi b.1, vi b.2.1]]) (res := [.one (vb false)]) (ats := #[]) (ty := 0) (v := xb false) [.tmp 0] (by kernel_rfl) (by kernel_rfl) (snap_cons (by kernel_rfl) (snap_nil)) (by have h9 := may_ok b; rw [c9] at h9; exact h9) (by kernel_rfl)) trivial))))) (by kernel_rfl)) (by kernel_rfl) ?_
   refine Wp.condT (by kernel_rfl) ?_
   refine Wp.regionSeq [] [(8, xi 1)] H3
     (cast trivial (by kernel_rfl)) (by kernel_rfl) ?_
   refine Wp.ret ?_
   refine ⟨Or.inr rfl, [.one (vi 1)], (by kernel_rfl), ?_⟩
   have e1 : 1 = monE L M r a b := by unfold monE monX; simp only [c6, c9, if_true, if_false, Bool.false_eq_true]
   have e2 : M = monM L M r a b := by unfold monM monX; simp only [c6, c9, if_true, if_false, Bool.false_eq_true]
   exact ⟨congrArg (fun z : Int => [Y.one (vi z)]) e1, by rw [← e2]; exact (On.pick [0, 1, 2, 3] [4, 5] (by kernel_rfl) hs4)⟩
 ·
  have hcall35 : Runs pg an 29 [.one (.ptr tt 0)] H3 [.one (vb true)] H3 := by
   refine runs_of ?_
   refine Runs.of (fn := Try.f29) Try.func29 rfl (by kernel_rfl) [(0, .y (.one (.ptr tt 0)))] (by kernel_rfl) ?_
   refine Wp.regionSeq [] [(0, .y (.one (.ptr tt 0)))] H3
     (cast trivial (by kernel_rfl)) (by kernel_rfl) ?_
   refine Wp.regionSeq [(6, .y (.one (.mp l)), H3)] [(2, xb true)] H3
     (cast (And.intro (ob_load_ptr (P := pg) (A := an) (H := H3) (t := 58) (ty := 0) (id := tt) (off := 0) (n := 1) (cs := [.mp l, .mp mo]) (cs' := [.mp l]) (v := .one (.mp l)) (On.at hs4 1 rfl) (by kernel_rfl) (by kernel_rfl) (by kernel_rfl) (by kernel_rfl)) trivial) (by kernel_rfl)) (by kernel_rfl) ?_
   refine Wp.ret ?_
   exact ⟨Or.inr rfl, [.one (vb true)], (by kernel_rfl), ⟨rfl, rfl⟩⟩
  refine Wp.regionSeq [(1, xb true, H3), (4, .y (.agg [vi a.1, vi a.2.1]), H3), (5, xb false, H3)] [(0, .y (.one (.ptr tt 0))), (1, xi r), (6, .y (.one (.ptr n1 0))), (7, .y (.one (.ptr n2 0))), (31, xb true)] H3
    (cast (And.intro (ob_call (P := pg) (A := an) (H := H3) (g := 29) (vals := [.y (.one (.ptr tt 0))]) (xs0 := [.one (.ptr tt 0)]) (res := [.one (vb true)]) (ats := #[]) (ty := 0) (v := xb true) (H' := H3) [.tmp 0] (by kernel_rfl) (by kernel_rfl) hcall35 (by kernel_rfl)) (And.intro (ob_load_ptr (P := pg) (A := an) (H := H3) (t := 24) (ty := 0) (id := n1) (off := 0) (n := 2) (cs := [vi a.1, vi a.2.1]) (cs' := [vi a.1, vi a.2.1]) (v := .agg [vi a.1, vi a.2.1]) (On.at hs4 4 rfl) (by kernel_rfl) (by kernel_rfl) (by kernel_rfl) (by kernel_rfl)) (And.intro (ob_pure (P := pg) (A := an) (H := H3) (g := 32) (vals := [.y (.agg [vi a.1, vi a.2.1])]) (xs0 := [.agg [vi a.1, vi a.2.1]]) (xs1 := [.agg [vi a.1, vi a.2.1]]) (res := [.one (vb false)]) (ats := #[]) (ty := 0) (v := xb false) [.tmp 0] (by kernel_rfl) (by kernel_rfl) (snap_cons (by kernel_rfl) (snap_nil)) (by have h9 := may_ok a; rw [c6] at h9; exact h9) (by kernel_rfl)) trivial))) (by kernel_rfl)) (by kernel_rfl) ?_
  refine Wp.condT (by kernel_rfl) ?_
  refine Wp.regionSeq [] [(8, xi 1)] H3
    (cast trivial (by kernel_rfl)) (by kernel_rfl) ?_
  refine Wp.ret ?_
  refine ⟨Or.inr rfl, [.one (vi 1)], (by kernel_rfl), ?_⟩
  have e1 : 1 = monE L M r a b := by unfold monE monX; simp only [c6, if_true, if_false, Bool.false_eq_true]
  have e2 : M = monM L M r a b := by unfold monM monX; simp only [c6, if_true, if_false, Bool.false_eq_true]
  exact ⟨congrArg (fun z : Int => [Y.one (vi z)]) e1, by rw [← e2]; exact (On.pick [0, 1, 2, 3] [4, 5] (by kernel_rfl) hs4)⟩
theorem new_ok (R : HP) (H : Go.Lg.Heap) (hs : On [R] H) : ∃ rs H', Runs pg an 7 [] H rs H' ∧ ∃ n1 n2 n3, rs = [.one (.ptr n3 0)] ∧ On [R, pts n1 (lnkO []), pts n2 (monO []), pts n3 (.obj [.mp n1, .mp n2])] H' := by
 refine Runs.of (fn := Try.f7) Try.func7 rfl (by kernel_rfl) [] (by kernel_rfl) ?_
 refine Wp.regionSeq [] [] H
   (cast trivial (by kernel_rfl)) (by kernel_rfl) ?_
 obtain ⟨n1, hn1⟩ : ∃ n, n = List.length (H : Go.Lg.Heap) := ⟨_, rfl⟩
 obtain ⟨n2, hn2⟩ : ∃ n, n = List.length ((H ++ [lnkO ([] : List PR.T)]) : Go.Lg.Heap) := ⟨_, rfl⟩
 obtain ⟨n3, hn3⟩ : ∃ n, n = List.length (((H ++ [lnkO ([] : List PR.T)]) ++ [monO ([] : List TI.T)]) : Go.Lg.Heap) := ⟨_, rfl⟩
 refine Wp.regionSeq [(0, .y (.one (.mp n1)), (H ++ [lnkO ([] : List PR.T)])), (1, .y (.one (.mp n2)), ((H ++ [lnkO ([] : List PR.T)]) ++ [monO ([] : List TI.T)])), (3, .y (.one (.ptr n3 0)), (((H ++ [lnkO ([] : List PR.T)]) ++ [monO ([] : List TI.T)]) ++ [.obj [.mp n1, .mp n2]]))] [(0, .y (.one (.ptr n3 0)))] (((H ++ [lnkO ([] : List PR.T)]) ++ [monO ([] : List TI.T)]) ++ [.obj [.mp n1, .mp n2]])
   (cast (And.intro (ob_bag_make (P := pg) (A := an) (H := H) (t := 58) (ty := 0) (n := n1) hn1 (by kernel_rfl) rfl) (And.intro (ob_bag_make (P := pg) (A := an) (H := (H ++ [lnkO ([] : List PR.T)])) (t := 59) (ty := 0) (n := n2) hn2 (by kernel_rfl) rfl) (And.intro (ob_box (P := pg) (A := an) (H := ((H ++ [lnkO ([] : List PR.T)]) ++ [monO ([] : List TI.T)])) (t := 61) (ty := 0) (n := n3) (v := .agg [.mp n1, .mp n2]) (cs := [.mp n1, .mp n2]) hn3 (by kernel_rfl) (by kernel_rfl) (by kernel_rfl)) trivial))) (by kernel_rfl)) (by kernel_rfl) ?_
 refine Wp.gen (cs := [R, pts n1 (lnkO ([] : List PR.T)), pts n2 (monO ([] : List TI.T)), pts n3 (.obj [.mp n1, .mp n2])]) (On.new' hn3 (.obj [.mp n1, .mp n2]) (On.new' hn2 (monO ([] : List TI.T)) (On.new' hn1 (lnkO ([] : List PR.T)) hs))) ?_
 intro H4 hs5
 refine Wp.ret ?_
 refine ⟨Or.inr rfl, [.one (.ptr n3 0)], (by kernel_rfl), ?_⟩
 exact ⟨n1, n2, n3, rfl, (On.pick [0, 1, 2, 3] [] (by kernel_rfl) hs5)⟩
theorem told_ok (R : HP) (H : Go.Lg.Heap) (tt l mo : Nat) (M : List TI.T) (c : C) (refs : List Int) (hs : On [R, pts tt (.obj [.mp l, .mp mo]), pts mo (monO M), ownP NI c refs] H) (hk : ∀ r ∈ refs, keyB r M = true) (hU : Uniq M) (hn : refs.length ≤ 3518437208883) : ∃ rs H', Runs pg an 33 [.one (.ptr tt 0), .one (c)] H rs H' ∧ ∃ c2, rs = [.one c2] ∧ On [R, pts tt (.obj [.mp l, .mp mo]), pts mo (monO M), ownP NI c refs, ownP TT5 c2 (refs.map (toldOf M))] H' := by
 refine Runs.of (fn := Try.f33) Try.func33 rfl (by kernel_rfl) [(0, .y (.one (.ptr tt 0))), (1, .y (.one (c)))] (by kernel_rfl) ?_
 refine Wp.regionSeq [] [(0, .y (.one (.ptr tt 0))), (1, .y (.one (c)))] H
   (cast trivial (by kernel_rfl)) (by kernel_rfl) ?_
 refine Wp.regionSeq [] [(0, .y (.one (.ptr tt 0))), (1, .y (.one (c))), (5, .y (.one (.sl false true true [] 0)))] H
   (cast trivial (by kernel_rfl)) (by kernel_rfl) ?_
 refine Wp.seq ?_
 obtain ⟨rfl, hl3, hs1⟩ | ⟨k4, rfl, k4z, hs2⟩ := own_open hs 3 rfl
 ·
  have hl3n : (refs.length : Int) = 0 := by rw [hl3]; rfl
  refine Wp.regionSeq [] [(0, .y (.one (.ptr tt 0))), (5, .y (.one (.sl false true true [] 0))), (9, .y (.one (.sl false true true [] 0))), (10, xi 0), (11, xi 0)] H
    (cast trivial (by kernel_rfl)) (by kernel_rfl) ?_
  refine Wp.block ?_
  refine Wp.loopU [(0, .y (.one (.ptr tt 0))), (5, .y (.one (.sl false true true [] 0))), (9, .y (.one (.sl false true true [] 0))), (10, xi 0), (11, xi 0)] (some ([0, 5, 9, 10, 11], false)) (List.length H) (by kernel_rfl) ?_
  refine WpL.step ?_
  refine Wp.regionSeq [] [(0, .y (.one (.ptr tt 0))), (5, .y (.one (.sl false true true [] 0))), (9, .y (.one (.sl false true true [] 0))), (10, xi 0), (11, xi 0), (12, xb false)] H
    (cast trivial (by kernel_rfl)) (by kernel_rfl) ?_
  refine Wp.seq ?_
  refine Wp.condF (by kernel_rfl) ?_
  refine Wp.exit ?_
  refine Eq.mpr (if_pos rfl) ?_
  refine Wp.regionSeq [] [(4, .y (.one (.sl false true true [] 0)))] H
    (cast trivial (by kernel_rfl)) (by kernel_rfl) ?_
  refine Wp.ret ?_
  refine ⟨Or.inr rfl, [.one (.sl false true true [] 0)], (by kernel_rfl), ?_⟩
  have hs5 : On [R, pts tt (.obj [.mp l, .mp mo]), pts mo (monO M), ownP NI (.sl false true true [] 0) refs] H := On.shut (cs := [R, pts tt (.obj [.mp l, .mp mo]), pts mo (monO M)]) [] [0, 1, 2] (by kernel_rfl) (fun _ _ => by rw [show refs = ([] : List Int) from hl3]; exact .inl ⟨rfl, rfl⟩) hs1
  have hs6 : On [R, pts tt (.obj [.mp l, .mp mo]), pts mo (monO M), ownP NI (.sl false true true [] 0) refs, ownP TT5 ((.sl false true true [] 0)) (refs.map (toldOf M))] H := On.shut (cs := [R, pts tt (.obj [.mp l, .mp mo]), pts mo (monO M), ownP NI (.sl false true true [] 0) refs]) [] [0, 1, 2, 3] (by kernel_rfl) (fun _ _ => by rw [show (refs.map (toldOf M)) = ([] : List TT5.T) from by rw [hl3]; rfl]; exact .inl ⟨rfl, rfl⟩) hs5
  exact ⟨((.sl false true true [] 0)), rfl, (On.pick [0, 1, 2, 3, 4] [] (by kernel_rfl) hs6)⟩
 ·
  refine Wp.regionSeq [(1, xi (refs.length : Int), H)] [(0, .y (.one (.ptr tt 0))), (5, .y (.one (.sl false true true [] 0))), (9, .y (.one (rowC k4 0 refs.length 0 refs.length false))), (10, xi (refs.length : Int)), (11, xi 0)] H
    (cast (And.intro (or_len (P := pg) (A := an) (H := H) (s := NI) (t := 75) (ty := 0) (pu := true) (capd := false) (id := k4) (d := 0) (o := 0) (n := refs.length) (l := refs) (e := (refs.length : Int)) (On.at hs2 3 rfl) (by kernel_rfl) (by first | rfl | omega | (simp only [List.length_nil]; omega) | (simp; done) | (simp; omega))) trivial) (by kernel_rfl)) (by kernel_rfl) ?_
  refine Wp.block ?_
  have hs7 : On [R, pts tt (.obj [.mp l, .mp mo]), pts mo (monO M), pts k4 (rowO NI true 0 refs), ownP TT5 (.sl false true true [] 0) ((refs.take (0 : Int).toNat).map (toldOf M))] H := On.shut (cs := [R, pts tt (.obj [.mp l, .mp mo]), pts mo (monO M), pts k4 (rowO NI true 0 refs)]) [] [0, 1, 2, 3] (by kernel_rfl) (fun _ _ => by rw [show ((refs.take (0 : Int).toNat).map (toldOf M)) = ([] : List TT5.T) from rfl]; exact .inl ⟨rfl, rfl⟩) hs2
  refine Wp.loop (T := Go.Lg.Heap × Int × C) (fun (t : Go.Lg.Heap × Int × C) => match t with | (H9, i, cv) => (((refs.length : Int) - i).toNat : Nat)) (fun (t : Go.Lg.Heap × Int × C) => match t with | (H9, i, cv) => ([(0, .y (.one (.ptr tt 0))), (5, .y (.one (cv))), (9, .y (.one (rowC k4 0 refs.length 0 refs.length false))), (10, xi (refs.length : Int)), (11, xi i)] : Env)) (fun (t : Go.Lg.Heap × Int × C) => match t with | (H9, i, cv) => (H9 : Go.Lg.Heap))
    (fun (t : Go.Lg.Heap × Int × C) => match t with | (H9, i, cv) => (On [R, pts tt (.obj [.mp l, .mp mo]), pts mo (monO M), pts k4 (rowO NI true 0 refs), ownP TT5 cv ((refs.take (i : Int).toNat).map (toldOf M))] H9 ∧ (0 ≤ i) ∧ (i ≤ (refs.length : Int)) ∧ ((((refs.take (i : Int).toNat).map (toldOf M)).length : Int) = i) : Prop)) (H, 0, (.sl false true true [] 0)) (by kernel_rfl) (⟨(On.pick [0, 1, 2, 3, 4] [] (by kernel_rfl) hs7), by omega, by omega, by simp⟩) ?_
  rintro ⟨H9, i, cv⟩ ⟨hs10, h1, h2, h3⟩
  show Wp _ _ _ _ [(0, .y (.one (.ptr tt 0))), (5, .y (.one (cv))), (9, .y (.one (rowC k4 0 refs.length 0 refs.length false))), (10, xi (refs.length : Int)), (11, xi i)] H9 _
  rcases ilt (i) ((refs.length : Int)) with c11 | c11
  ·
   refine Wp.regionSeq [(0, xb true, H9)] [(0, .y (.one (.ptr tt 0))), (5, .y (.one (cv))), (9, .y (.one (rowC k4 0 refs.length 0 refs.length false))), (10, xi (refs.length : Int)), (11, xi i), (12, xb true)] H9
     (cast (And.intro (ob_raw (P := pg) (A := an) (vals := [xi i, xi (refs.length : Int)]) (H := H9) (op := .binOp .lss 3 (.tmp 0) (.tmp 1) 3) (ty := 0) (r := xb (decide (ILt (i) ((refs.length : Int))))) (v := xb true) (by kernel_rfl) (congrArg (fun z => xb z) (decide_eq_true (by omega)))) trivial) (by kernel_rfl)) (by kernel_rfl) ?_
   refine Wp.seq ?_
   refine Wp.condT (by kernel_rfl) ?_
   refine Wp.skip ?_
   refine Wp.seq ?_
   refine Wp.block ?_
   obtain ⟨x12, hx12⟩ : ∃ x : Int, refs[(i : Int).toNat]? = some x := get_of (by first | rfl | omega | (simp only [List.length_nil]; omega) | (simp; done) | (simp; omega))
   refine Wp.regionSeq [(0, .y (.one (raC k4 0 refs.length 1 ((i : Int).toNat) 0)), H9), (1, xi x12, H9)] [(0, .y (.one (.ptr tt 0))), (5, .y (.one (cv))), (7, xi x12), (9, .y (.one (rowC k4 0 refs.length 0 refs.length false))), (10, xi (refs.length : Int)), (11, xi i)] H9
     (cast (And.intro (or_index (P := pg) (A := an) (H := H9) (s := NI) (t := 75) (el := 3) (ty := 0) (pu := true) (capd := false) (id := k4) (d := 0) (o := 0) (n := refs.length) (j := ((i : Int).toNat)) (l := refs) (i := i) (On.at hs10 3 rfl) Try.underlying75 (by kernel_rfl) (by omega) (by first | rfl | omega | (simp only [List.length_nil]; omega) | (simp; done) | (simp; omega)) (by first | rfl | omega | (simp only [List.length_nil]; omega) | (simp; done) | (simp; omega)) (by first | rfl | omega | (simp only [List.length_nil]; omega) | (simp; done) | (simp; omega))) (And.intro (or_load (P := pg) (A := an) (H := H9) (s := NI) (t := 3) (ty := 0) (pu := true) (id := k4) (d := 0) (j := ((i : Int).toNat)) (o := 0) (n := 1) (l := refs) (x := x12) (v := .one (vi x12)) (On.at hs10 3 rfl) (by kernel_rfl) (by kernel_rfl) (of_content (L := refs) (o := 0) (n := refs.length) (dt0 rfl (Nat.le_refl _)) hx12 (by first | rfl | omega | (simp only [List.length_nil]; omega) | (simp; done) | (simp; omega))) (by kernel_rfl)) trivial)) (by kernel_rfl)) (by kernel_rfl) ?_
   obtain ⟨w13, hw14, hm15⟩ := mkey (ms := M) (r := x12) hU (hk _ (List.mem_of_getElem? hx12))
   obtain ⟨n16, hn16⟩ : ∃ n, n = List.length (H9 : Go.Lg.Heap) := ⟨_, rfl⟩
   refine Wp.regionSeq [(3, .y (.one (.mp mo)), H9), (5, .y (.agg [vi w13.1.1, vi w13.1.2.1, vi w13.2.1.1, vi w13.2.1.2.1]), H9), (6, .y (.one (.ptr n16 0)), (H9 ++ [.obj [vi 0, vi 0, vi 0, vi 0]])), (7, .tup [], (List.set (α := O) (H9 ++ [.obj [vi 0, vi 0, vi 0, vi 0]]) n16 (.obj [vi w13.1.1, vi w13.1.2.1, vi w13.2.1.1, vi w13.2.1.2.1])))] [(0, .y (.one (.ptr tt 0))), (5, .y (.one (cv))), (7, xi x12), (8, .y (.one (.ptr n16 0))), (9, .y (.one (rowC k4 0 refs.length 0 refs.length false))), (10, xi (refs.length : Int)), (11, xi i)] (List.set (α := O) (H9 ++ [.obj [vi 0, vi 0, vi 0, vi 0]]) n16 (.obj [vi w13.1.1, vi w13.1.2.1, vi w13.2.1.1, vi w13.2.1.2.1]))
     (cast (And.intro (ob_load_ptr (P := pg) (A := an) (H := H9) (t := 59) (ty := 0) (id := tt) (off := 1) (n := 1) (cs := [.mp l, .mp mo]) (cs' := [.mp mo]) (v := .one (.mp mo)) (On.at hs10 1 rfl) (by kernel_rfl) (by kernel_rfl) (by kernel_rfl) (by kernel_rfl)) (And.intro (mo_hit (A := an) (H := H9) (id := mo) (ms := M) (r := x12) (w := w13) (On.at hs10 2 rfl) hw14) (And.intro (ob_alloc (P := pg) (A := an) (H := H9) (t := 72) (ty := 0) (n := n16) (cs := [vi 0, vi 0, vi 0, vi 0]) hn16 (by kernel_rfl)) (And.intro (ob_store_ptr (P := pg) (A := an) (H := (H9 ++ [.obj [vi 0, vi 0, vi 0, vi 0]])) (t := 72) (ty := 0) (id := n16) (off := 0) (cs := [vi 0, vi 0, vi 0, vi 0]) (cs' := [vi w13.1.1, vi w13.1.2.1, vi w13.2.1.1, vi w13.2.1.2.1]) (v := .agg [vi w13.1.1, vi w13.1.2.1, vi w13.2.1.1, vi w13.2.1.2.1]) (On.at (On.new' hn16 (.obj [vi 0, vi 0, vi 0, vi 0]) hs10) 5 rfl) (by kernel_rfl) (by kernel_rfl) (by kernel_rfl)) trivial)))) (by kernel_rfl)) (by kernel_rfl) ?_
   refine Wp.gen (cs := [R, pts tt (.obj [.mp l, .mp mo]), pts mo (monO M), pts k4 (rowO NI true 0 refs), ownP TT5 cv ((refs.take (i : Int).toNat).map (toldOf M)), pts n16 (.obj [vi w13.1.1, vi w13.1.2.1, vi w13.2.1.1, vi w13.2.1.2.1])]) (On.put (.obj [vi w13.1.1, vi w13.1.2.1, vi w13.2.1.1, vi w13.2.1.2.1]) (On.new' hn16 (.obj [vi 0, vi 0, vi 0, vi 0]) hs10) 5 rfl) ?_
   intro H17 hs18
   obtain ⟨cv19, H20, ho21, hs22⟩ := or_append_own (P := pg) (A := an) (s := TT5) (t := 35) (u := 35) (el := 41) (by_ := 40) (z := [vi 0, vi 0, vi 0, vi 0, vi 0]) (ty := 0) (y := .sl false false true [vi x12, vi w13.1.1, vi w13.1.2.1, vi w13.2.1.1, vi w13.2.1.2.1] 1) (lm := ([(x12, w13)])) (m := 1) hs18 4 rfl ((slCells_slO (H := H17) (s := TT5) (b := false) (nil := false) (capd := true) (l := [(x12, w13)]) (n := 1) (by first | rfl | omega | (simp only [List.length_nil]; omega) | (simp; done) | (simp; omega)))) (by kernel_rfl) (by kernel_rfl) (by kernel_rfl) (by kernel_rfl) (by kernel_rfl) (by kernel_rfl) (by kernel_rfl) (by first | rfl | omega | (simp only [List.length_nil]; omega) | (simp; done) | (simp; omega)) (by omega) (by omega)
   have hs22l : ((((refs.take (i : Int).toNat).map (toldOf M)) ++ ([(x12, w13)])).length : Int) = ((((refs.take (i : Int).toNat).map (toldOf M)).length : Int) + 1) := by { first | omega | (simp only [List.length_append]; omega) | (simp; done) | (simp; omega) }
   refine Wp.regionK [(3, .y (.agg [vi w13.1.1, vi w13.1.2.1]), H17), (5, .y (.agg [vi w13.2.1.1, vi w13.2.1.2.1]), H17), (8, .y (.one (cv19)), H20)] [(0, .y (.one (.ptr tt 0))), (5, .y (.one (cv19))), (9, .y (.one (rowC k4 0 refs.length 0 refs.length false))), (10, xi (refs.length : Int)), (11, xi i)] H20
     (cast (And.intro (ob_load_ptr (P := pg) (A := an) (H := H17) (t := 24) (ty := 0) (id := n16) (off := 0) (n := 2) (cs := [vi w13.1.1, vi w13.1.2.1, vi w13.2.1.1, vi w13.2.1.2.1]) (cs' := [vi w13.1.1, vi w13.1.2.1]) (v := .agg [vi w13.1.1, vi w13.1.2.1]) (On.at hs18 5 rfl) (by kernel_rfl) (by kernel_rfl) (by kernel_rfl) (by kernel_rfl)) (And.intro (ob_load_ptr (P := pg) (A := an) (H := H17) (t := 24) (ty := 0) (id := n16) (off := 2) (n := 2) (cs := [vi w13.1.1, vi w13.1.2.1, vi w13.2.1.1, vi w13.2.1.2.1]) (cs' := [vi w13.2.1.1, vi w13.2.1.2.1]) (v := .agg [vi w13.2.1.1, vi w13.2.1.2.1]) (On.at hs18 5 rfl) (by kernel_rfl) (by kernel_rfl) (by kernel_rfl) (by kernel_rfl)) (And.intro ho21 trivial))) (by kernel_rfl)) (by kernel_rfl) ?_
   refine Wp.gen (cs := [R, pts tt (.obj [.mp l, .mp mo]), pts mo (monO M), pts k4 (rowO NI true 0 refs), pts n16 (.obj [vi w13.1.1, vi w13.1.2.1, vi w13.2.1.1, vi w13.2.1.2.1]), ownP TT5 cv19 (((refs.take (i : Int).toNat).map (toldOf M)) ++ ([(x12, w13)]))]) hs22 ?_
   intro H23 hs24
   refine Wp.skip ?_
   refine Wp.region [(0, xi (i + 1), H23)] [(0, .y (.one (.ptr tt 0))), (5, .y (.one (cv19))), (9, .y (.one (rowC k4 0 refs.length 0 refs.length false))), (10, xi (refs.length : Int)), (11, xi (i + 1))] H23
     (cast (And.intro (ob_raw (P := pg) (A := an) (vals := [xi i, xi 1]) (H := H23) (op := .binOp .add 3 (.tmp 0) (.tmp 1) 3) (ty := 0) (r := xi (IntKind.wrap .i64 (i + 1))) (v := xi (i + 1)) (by kernel_rfl) (congrArg (fun z => xi z) ((wrap64 (by omega)).trans (by omega)))) trivial) (by kernel_rfl)) (by kernel_rfl) ?_
   exact ⟨(H23, (i + 1), cv19), by kernel_rfl, (⟨(On.pick [0, 1, 2, 3, 5] [4] (by kernel_rfl) (On.mono (A' := ownP TT5 cv19 ((refs.take ((i + 1) : Int).toNat).map (toldOf M))) 5 rfl (fun _ x => by rw [← (show (((refs.take (i : Int).toNat).map (toldOf M)) ++ ([(x12, w13)])) = ((refs.take ((i + 1) : Int).toNat).map (toldOf M)) from told_step h1 hx12 hw14)]; exact x) hs24)), by omega, by omega, (by simp only [List.length_map, List.length_take]; omega)⟩), (by show (_ : Nat) < _; simp only []; omega)⟩
  ·
   refine Wp.regionSeq [(0, xb false, H9)] [(0, .y (.one (.ptr tt 0))), (5, .y (.one (cv))), (9, .y (.one (rowC k4 0 refs.length 0 refs.length false))), (10, xi (refs.length : Int)), (11, xi i), (12, xb false)] H9
     (cast (And.intro (ob_raw (P := pg) (A := an) (vals := [xi i, xi (refs.length : Int)]) (H := H9) (op := .binOp .lss 3 (.tmp 0) (.tmp 1) 3) (ty := 0) (r := xb (decide (ILt (i) ((refs.length : Int))))) (v := xb false) (by kernel_rfl) (congrArg (fun z => xb z) (decide_eq_false (by omega)))) trivial) (by kernel_rfl)) (by kernel_rfl) ?_
   refine Wp.seq ?_
   refine Wp.condF (by kernel_rfl) ?_
   refine Wp.exit ?_
   refine Eq.mpr (if_pos rfl) ?_
   refine Wp.regionSeq [] [(4, .y (.one (cv)))] H9
     (cast trivial (by kernel_rfl)) (by kernel_rfl) ?_
   refine Wp.ret ?_
   refine ⟨Or.inr rfl, [.one (cv)], (by kernel_rfl), ?_⟩
   have hs25 : On [R, pts tt (.obj [.mp l, .mp mo]), pts mo (monO M), ownP TT5 cv ((refs.take (i : Int).toNat).map (toldOf M)), ownP NI (rowC k4 0 refs.length 0 refs.length false) refs] H9 := On.shut (cs := [R, pts tt (.obj [.mp l, .mp mo]), pts mo (monO M), pts k4 (rowO NI true 0 refs), ownP TT5 cv ((refs.take (i : Int).toNat).map (toldOf M))]) [3] [0, 1, 2, 4] (by kernel_rfl) (fun _ x => by rw [show refs = refs from rfl]; exact own_row (by first | assumption | (simp; done)) x) hs10
   exact ⟨cv, rfl, (On.pick [0, 1, 2, 4, 3] [] (by kernel_rfl) (On.mono (A' := ownP TT5 cv (refs.map (toldOf M))) 3 rfl (fun _ x => by rw [← (show ((refs.take (i : Int).toNat).map (toldOf M)) = (refs.map (toldOf M)) from told_end (by omega))]; exact x) hs25))⟩
theorem watchers_ok (R : HP) (H : Go.Lg.Heap) (tt l mo : Nat) (L : List PR.T) (M : List TI.T) (b : PD.T) (hs : On [R, pts tt (.obj [.mp l, .mp mo]), pts l (lnkO L), pts mo (monO M)] H) (hT : okTies L M = true) : ∃ rs H', Runs pg an 15 [.one (.ptr tt 0), .agg [vi b.1, vi b.2.1]] H rs H' ∧ ∃ c, rs = [.one c] ∧ On [R, pts tt (.obj [.mp l, .mp mo]), pts l (lnkO L), pts mo (monO M), ownP TT5 c (watOf M b)] H' := by
 obtain ⟨hLo, hL, hU, nL, nM⟩ := okTies_is hT
 have hLM := okTies_sum hT
 refine Runs.of (fn := Try.f15) Try.func15 rfl (by kernel_rfl) [(0, .y (.one (.ptr tt 0))), (1, .y (.agg [vi b.1, vi b.2.1]))] (by kernel_rfl) ?_
 obtain ⟨n1, hn1⟩ : ∃ n, n = List.length (H : Go.Lg.Heap) := ⟨_, rfl⟩
 refine Wp.regionSeq [(0, .y (.one (.ptr n1 0)), (H ++ [.obj [vi b.1, vi b.2.1]]))] [(0, .y (.one (.ptr tt 0))), (3, .y (.one (.ptr n1 0)))] (H ++ [.obj [vi b.1, vi b.2.1]])
   (cast (And.intro (ob_box (P := pg) (A := an) (H := H) (t := 24) (ty := 0) (n := n1) (v := .agg [vi b.1, vi b.2.1]) (cs := [vi b.1, vi b.2.1]) hn1 (by kernel_rfl) (by kernel_rfl) (by kernel_rfl)) trivial) (by kernel_rfl)) (by kernel_rfl) ?_
 refine Wp.gen (cs := [R, pts tt (.obj [.mp l, .mp mo]), pts l (lnkO L), pts mo (monO M), pts n1 (.obj [vi b.1, vi b.2.1])]) (On.new' hn1 (.obj [vi b.1, vi b.2.1]) hs) ?_
 intro H2 hs3
 refine Wp.seq ?_
 have hcall4 : Runs pg an 29 [.one (.ptr tt 0)] H2 [.one (vb true)] H2 := by
  refine runs_of ?_
  refine Runs.of (fn := Try.f29) Try.func29 rfl (by kernel_rfl) [(0, .y (.one (.ptr tt 0)))] (by kernel_rfl) ?_
  refine Wp.regionSeq [] [(0, .y (.one (.ptr tt 0)))] H2
    (cast trivial (by kernel_rfl)) (by kernel_rfl) ?_
  refine Wp.regionSeq [(6, .y (.one (.mp l)), H2)] [(2, xb true)] H2
    (cast (And.intro (ob_load_ptr (P := pg) (A := an) (H := H2) (t := 58) (ty := 0) (id := tt) (off := 0) (n := 1) (cs := [.mp l, .mp mo]) (cs' := [.mp l]) (v := .one (.mp l)) (On.at hs3 1 rfl) (by kernel_rfl) (by kernel_rfl) (by kernel_rfl) (by kernel_rfl)) trivial) (by kernel_rfl)) (by kernel_rfl) ?_
  refine Wp.ret ?_
  exact ⟨Or.inr rfl, [.one (vb true)], (by kernel_rfl), ⟨rfl, rfl⟩⟩
 refine Wp.regionSeq [(1, xb true, H2)] [(0, .y (.one (.ptr tt 0))), (3, .y (.one (.ptr n1 0))), (7, xb false)] H2
   (cast (And.intro (ob_call (P := pg) (A := an) (H := H2) (g := 29) (vals := [.y (.one (.ptr tt 0))]) (xs0 := [.one (.ptr tt 0)]) (res := [.one (vb true)]) (ats := #[]) (ty := 0) (v := xb true) (H' := H2) [.tmp 0] (by kernel_rfl) (by kernel_rfl) hcall4 (by kernel_rfl)) trivial) (by kernel_rfl)) (by kernel_rfl) ?_
 refine Wp.condF (by kernel_rfl) ?_
 refine Wp.skip ?_
 obtain ⟨_, H7, hr8, c5, rfl, hs9⟩ := refs_c (A := an) rfl rfl 37 (q37 b) _ (H2 : Go.Lg.Heap) tt l mo n1 M b (On.call [1, 3, 4] [0, 2] (by kernel_rfl) hs3) q37_of hU nM
 have hs9 : On [R, pts l (lnkO L), pts tt (.obj [.mp l, .mp mo]), pts mo (monO M), pts n1 (.obj [vi b.1, vi b.2.1]), ownP NI c5 (isort ltI (refOf (q37 b) M))] H7 := On.flat hs9
 have hz6 : ((isort ltI (refOf (q37 b) M)).length : Int) ≤ (M.length : Int) := lenIM (q37 b) M
 obtain ⟨_, H12, hr13, c10, rfl, hs14⟩ := told_ok _ (H7 : Go.Lg.Heap) tt l mo M c5 (isort ltI (refOf (q37 b) M)) (On.call [2, 3, 5] [0, 1, 4] (by kernel_rfl) hs9) (keysIn (q37 b) _) hU (lenI nM)
 have hs14 : On [R, pts l (lnkO L), pts n1 (.obj [vi b.1, vi b.2.1]), pts tt (.obj [.mp l, .mp mo]), pts mo (monO M), ownP NI c5 (isort ltI (refOf (q37 b) M)), ownP TT5 c10 ((isort ltI (refOf (q37 b) M)).map (toldOf M))] H12 := On.flat hs14
 have ht11 : (((isort ltI (refOf (q37 b) M)).map (toldOf M)).length : Int) ≤ (M.length : Int) := by have := lenIM (q37 b) M; rw [List.length_map]; omega
 refine Wp.regionSeq [(3, .y (.one (c5)), H7), (4, .y (.one (c10)), H12)] [(4, .y (.one (c10)))] H12
   (cast (And.intro (ob_call (P := pg) (A := an) (H := H2) (g := 34) (vals := [.y (.one (.ptr tt 0)), .y (.one (.fn (.func 37) [] [.ptr n1 0]))]) (xs0 := [.one (.ptr tt 0), .one (.fn (.func 37) [] [.ptr n1 0])]) (res := [.one (c5)]) (ats := #[]) (ty := 0) (v := .y (.one (c5))) (H' := H7) [.tmp 0, .tmp 1] (by kernel_rfl) (by kernel_rfl) hr8 (by kernel_rfl)) (And.intro (ob_call (P := pg) (A := an) (H := H7) (g := 33) (vals := [.y (.one (.ptr tt 0)), .y (.one (c5))]) (xs0 := [.one (.ptr tt 0), .one (c5)]) (res := [.one (c10)]) (ats := #[]) (ty := 0) (v := .y (.one (c10))) (H' := H12) [.tmp 0, .tmp 1] (by kernel_rfl) (by kernel_rfl) hr13 (by kernel_rfl)) trivial)) (by kernel_rfl)) (by kernel_rfl) ?_
 refine Wp.gen (cs := [R, pts l (lnkO L), pts n1 (.obj [vi b.1, vi b.2.1]), pts tt (.obj [.mp l, .mp mo]), pts mo (monO M), ownP NI c5 (isort ltI (refOf (q37 b) M)), ownP TT5 c10 ((isort ltI (refOf (q37 b) M)).map (toldOf M))]) hs14 ?_
 intro H15 hs16
 refine Wp.ret ?_
 refine ⟨Or.inr rfl, [.one (c10)], (by kernel_rfl), ?_⟩
 exact ⟨c10, rfl, (On.pick [0, 3, 1, 4, 6] [2, 5] (by kernel_rfl) (On.mono (A' := ownP TT5 c10 (watOf M b)) 6 rfl (fun _ x => by rw [← (show ((isort ltI (refOf (q37 b) M)).map (toldOf M)) = (watOf M b) from rfl)]; exact x) hs16))⟩
end Go.Proofs.Ytjhgjbagmkiibaa.E
end
section
namespace Go.Proofs.Ytjhgjbagmkiibaa.E
open Go.Lg
set_option linter.unusedVariables false
set_option maxRecDepth 100000
set_option maxHeartbeats 8000000
set_option linter.unusedSimpArgs false
theorem own_items' {s : Sh} {cs : List HP} {H : Go.Lg.Heap} {c : C} {l : List s.T} (hs : On cs H) (j : Nat) (hj : cs[j]? = some (ownP s c l)) : On (cs.set j (itemsP s c l)) H ∧ (cs.set j (itemsP s c l))[j]? = some (itemsP s c l) :=
  ⟨On.mono (A' := itemsP s c l) j hj (fun _ x => own_items x) hs, by rw [List.getElem?_set_self (List.getElem?_eq_some_iff.1 hj).1]⟩
theorem own_snap {s : Sh} {cs : List HP} {H : Go.Lg.Heap} {c : C} {l : List s.T} (hs : On cs H) (j : Nat) (hj : cs[j]? = some (ownP s c l)) : ∃ b n p, snapC H c = some (sv s b n p l) := items_snap (own_items' hs j hj).1 j (own_items' hs j hj).2
theorem own_back {s : Sh} {cs : List HP} {H : Go.Lg.Heap} {c : C} {l : List s.T} (hs : On cs H) (j : Nat) (hj : cs[j]? = some (ownP s c l)) : ∃ n p, backC H c = some (sv s false n p l) := items_back (own_items' hs j hj).1 j (own_items' hs j hj).2
theorem ob_len_own {P : Program} {A : Ann} {t ty : TypeId} {s : Sh} {cs : List HP} {H : Go.Lg.Heap} {c : C} {l : List s.T} {e : Int} (hs : On cs H) (j : Nat) (hj : cs[j]? = some (ownP s c l)) (ht : (elemT P t).isSome = true) (hn : (l.length : Int) = e) :
    Ob P A [.y (.one c)] H (.call { callee := .builtin .len, args := #[.tmp 0], argTypes := #[t] }) ty (.y (.one (.sc (.int .i64 e)))) H := ob_len_items (own_items' hs j hj).1 j (own_items' hs j hj).2 ht hn
def delsL (L : List PR.T) (a : PD.T) (ds : List PD.T) : List PR.T := ds.foldl (fun L b => ldel L (pairOf a b)) L
def delsM (M : List TI.T) (rs : List Int) : List TI.T := rs.foldl mdel M
def goneL (L : List PR.T) (a : PD.T) : List PR.T := delsL L a (isort ltD (lnkOf L a))
def goneM (M : List TI.T) (a : PD.T) : List TI.T := delsM M (isort ltI (refOf (q36 a) M))
def toldG (M : List TI.T) (a : PD.T) : List TT5.T := (isort ltI (refOf (q35 a) M)).map (toldOf M)
end Go.Proofs.Ytjhgjbagmkiibaa.E
end
section
namespace Go.Proofs.Ytjhgjbagmkiibaa.E
open Go.Lg Go.Sort
set_option maxRecDepth 100000
set_option linter.unusedVariables false
set_option linter.unusedSimpArgs false
structure TieInv (L : List PR.T) (M : List TI.T) : Prop where
  nd : L.Nodup
  uq : Uniq M
  lk : ∀ p ∈ L, mayP p.1 = true ∧ mayP p.2.1 = true ∧ ltD p.1 p.2.1 = true
  mn : ∀ y ∈ M, (1 ≤ y.1 ∧ y.1 ≤ 4611686018427387903) ∧ mayP y.2.1 = true ∧ mayP y.2.2.1 = true
  sz : (L.length : Int) + (M.length : Int) ≤ 1024
theorem may_okD {a : PD.T} (h : mayP a = true) : okD a = true := by
  have := may_is h
  exact decide_eq_true ⟨this.1, this.2.1⟩
theorem TieInv.ok {L : List PR.T} {M : List TI.T} (h : TieInv L M) : okTies L M = true := by
  refine okTies_of ?_ h.nd h.uq (by have := h.sz; omega)
  rw [List.all_eq_true]
  intro p hp
  have := h.lk p hp
  unfold okL
  rw [may_okD this.1, may_okD this.2.1]
  rfl
/-! ### How two stand -/
theorem eqPD {a b : PD.T} : eqb PD a b = true ↔ a = b := eqb_iff (s := PD) rfl
theorem ord_lt {a b : PD.T} : ordP a b < 0 ↔ ltD a b = true := by
  unfold ordP cmpP ltD ltP
  dsimp only
  rw [decide_eq_true_eq]
  split
  · omega
  · split
    · omega
    · split <;> omega
theorem ord_gt {a b : PD.T} : 0 < ordP a b ↔ ltD b a = true := by
  unfold ordP cmpP ltD ltP
  dsimp only
  rw [decide_eq_true_eq]
  split
  · omega
  · split
    · omega
    · split <;> omega
theorem pair_lt {a b : PD.T} (h : ltD a b = true) : pairOf a b = (a, (b, ())) ∧ pairOf b a = (a, (b, ())) := by
  refine ⟨if_neg fun e => ?_, if_pos (ord_gt.2 h)⟩
  have := ord_gt.1 e
  have h2 := swoD.trans _ _ _ h this
  rw [swoD.irrefl] at h2; cases h2
theorem lt_or {a b : PD.T} (h : a ≠ b) : ltD a b = true ∨ ltD b a = true := by
  cases h1 : ltD a b with
  | true => exact .inl rfl
  | false =>
    cases h2 : ltD b a with
    | true => exact .inr rfl
    | false => exact absurd (antiD _ _ h1 h2) h
theorem pair_is {p : PR.T} {a b : PD.T} (ho : ltD p.1 p.2.1 = true) (h : (p.1 = a ∧ p.2.1 = b) ∨ (p.2.1 = a ∧ p.1 = b)) : p = pairOf a b := by
  obtain ⟨x, y, u⟩ := p
  rcases h with ⟨rfl, rfl⟩ | ⟨rfl, rfl⟩
  · exact (pair_lt ho).1.symm
  · exact (pair_lt ho).2.symm
theorem pair_has (a b : PD.T) : ((pairOf a b).1 = a ∧ (pairOf a b).2.1 = b) ∨ ((pairOf a b).2.1 = a ∧ (pairOf a b).1 = b) := by
  unfold pairOf
  split
  · exact .inr ⟨rfl, rfl⟩
  · exact .inl ⟨rfl, rfl⟩
theorem ne_of_lt {a b : PD.T} (h : ltD a b = true) : a ≠ b := by
  rintro rfl
  rw [swoD.irrefl] at h; cases h
theorem mem_lnkOf {L : List PR.T} {a b : PD.T} (ho : ∀ p ∈ L, ltD p.1 p.2.1 = true) : b ∈ lnkOf L a ↔ a ≠ b ∧ pairOf a b ∈ L := by
  constructor
  · intro h
    obtain ⟨p, hp, h⟩ := List.mem_filterMap.1 h
    have hne := ne_of_lt (ho p hp)
    split at h
    · rename_i e; cases h
      have e := eqPD.1 e
      refine ⟨by rw [← e]; exact hne, ?_⟩
      rw [← pair_is (ho p hp) (.inl ⟨e, rfl⟩)]; exact hp
    · split at h
      · rename_i e; cases h
        have e := eqPD.1 e
        refine ⟨by rw [← e]; exact hne.symm, ?_⟩
        rw [← pair_is (ho p hp) (.inr ⟨e, rfl⟩)]; exact hp
      · cases h
  · rintro ⟨hne, hp⟩
    refine List.mem_filterMap.2 ⟨_, hp, ?_⟩
    rcases pair_has a b with ⟨e1, e2⟩ | ⟨e1, e2⟩
    · rw [if_pos (eqPD.2 e1), e2]
    · rw [if_neg (by rw [eqPD, e2]; exact hne.symm), if_pos (eqPD.2 e1), e2]
theorem mem_links {L : List PR.T} {a b : PD.T} (ho : ∀ p ∈ L, ltD p.1 p.2.1 = true) : b ∈ isort ltD (lnkOf L a) ↔ a ≠ b ∧ pairOf a b ∈ L := by
  rw [(isort_perm ltD _).mem_iff, mem_lnkOf ho]
theorem mem_ldel {L : List PR.T} {x y : PR.T} : y ∈ ldel L x ↔ y ∈ L ∧ x ≠ y := by
  unfold ldel
  rw [List.mem_filter, Bool.not_eq_true', ← Bool.not_eq_true, eqPR_iff]
theorem ldel_len {L : List PR.T} (x : PR.T) : (ldel L x).length ≤ L.length := List.length_filter_le _ _
theorem mem_lins {L : List PR.T} {x y : PR.T} : y ∈ lins L x ↔ y ∈ L ∨ y = x := by
  unfold lins
  rw [List.mem_append, mem_ldel, List.mem_singleton]
  constructor
  · rintro (h | h)
    · exact .inl h.1
    · exact .inr h
  · rintro (h | h)
    · by_cases e : x = y
      · exact .inr e.symm
      · exact .inl ⟨h, e⟩
    · exact .inr h
theorem lins_nd {L : List PR.T} {x : PR.T} (h : L.Nodup) : (lins L x).Nodup := by
  unfold lins
  refine List.nodup_append.2 ⟨h.filter _, by simp, ?_⟩
  rintro y hy z hz rfl
  rw [List.mem_singleton] at hz
  subst hz
  exact (mem_ldel.1 hy).2 rfl
theorem lins_len {L : List PR.T} (x : PR.T) : (lins L x).length ≤ L.length + 1 := by
  unfold lins
  have := ldel_len (L := L) x
  rw [List.length_append]
  simp only [List.length_cons, List.length_nil]
  omega
theorem mem_mdel {M : List TI.T} {r : Int} {y : TI.T} : y ∈ mdel M r ↔ y ∈ M ∧ r ≠ y.1 := by
  unfold mdel
  rw [List.mem_filter, Bool.not_eq_true', ← Bool.not_eq_true, beq_iff_eq]
theorem mdel_uq {M : List TI.T} (r : Int) (h : Uniq M) : Uniq (mdel M r) := h.sublist (List.filter_sublist.map _)
theorem mem_mins {M : List TI.T} {r : Int} {w : PR.T} {y : TI.T} : y ∈ mins M r w ↔ (y ∈ M ∧ r ≠ y.1) ∨ y = ((r, w) : TI.T) := by
  unfold mins
  rw [List.mem_append, mem_mdel, List.mem_singleton]
theorem mins_uq {M : List TI.T} {r : Int} {w : PR.T} (h : Uniq M) : Uniq (mins M r w) := by
  unfold mins Uniq
  rw [List.map_append]
  refine List.nodup_append.2 ⟨mdel_uq r h, by simp, ?_⟩
  rintro x hx z hz rfl
  obtain ⟨y, hy, rfl⟩ := List.mem_map.1 hx
  simp only [List.map_cons, List.map_nil, List.mem_singleton] at hz
  exact (mem_mdel.1 hy).2 hz.symm
theorem mins_len {M : List TI.T} (r : Int) (w : PR.T) : (mins M r w).length ≤ M.length + 1 := by
  unfold mins mdel
  have := List.length_filter_le (fun y : TI.T => !(r == y.1)) M
  rw [List.length_append]
  simp only [List.length_cons, List.length_nil]
  omega
/-! ### Link -/
theorem TieInv.ord {L : List PR.T} {M : List TI.T} (h : TieInv L M) : ∀ p ∈ L, ltD p.1 p.2.1 = true := fun p hp => (h.lk p hp).2.2
/-! ### Monitor, Demon -/
/-! ### Gone -/
theorem mem_refs {q : PR.T → Bool} {M : List TI.T} {r : Int} : r ∈ isort ltI (refOf q M) ↔ ∃ y ∈ M, q y.2 = true ∧ y.1 = r := by
  rw [(isort_perm ltI _).mem_iff]
  unfold refOf
  rw [List.mem_map]
  constructor
  · rintro ⟨y, hy, rfl⟩
    exact ⟨y, (List.mem_filter.1 hy).1, (List.mem_filter.1 hy).2, rfl⟩
  · rintro ⟨y, h1, h2, rfl⟩
    exact ⟨y, List.mem_filter.2 ⟨h1, h2⟩, rfl⟩
/-! ### What is told -/
theorem told_fst (M : List TI.T) (r : Int) : (toldOf M r).1 = r := by
  unfold toldOf
  split <;> rfl
theorem told_of {M : List TI.T} (h : Uniq M) {y : TI.T} (hy : y ∈ M) : toldOf M y.1 = y := by
  obtain ⟨w, h1, h2⟩ := mkey (ms := M) (r := y.1) h (List.any_eq_true.2 ⟨y, hy, by simp⟩)
  rw [toldOf_is h1]
  exact inj_of_nodup h _ h2 _ hy rfl
theorem told_mem {M : List TI.T} (h : Uniq M) (q : PR.T → Bool) {x : TT5.T} : x ∈ (isort ltI (refOf q M)).map (toldOf M) ↔ x ∈ M ∧ q x.2 = true := by
  rw [List.mem_map]
  constructor
  · rintro ⟨r, hr, rfl⟩
    obtain ⟨y, hy, h1, rfl⟩ := mem_refs.1 hr
    rw [told_of h hy]
    exact ⟨hy, h1⟩
  · rintro ⟨hx, hq⟩
    exact ⟨x.1, mem_refs.2 ⟨x, hx, hq, rfl⟩, told_of h hx⟩
theorem refs_sorted {q : PR.T → Bool} {M : List TI.T} (h : Uniq M) : (isort ltI (refOf q M)).Pairwise (· < ·) := by
  have h1 := isort_sorted swoI (refOf q M)
  have h2 : (isort ltI (refOf q M)).Nodup := by
    rw [(isort_perm ltI _).nodup_iff]
    exact h.sublist (List.filter_sublist.map _)
  exact (h1.and h2).imp fun {a b} hab => by
    have h3 : ¬ b < a := by simpa [ltI] using hab.1
    have := hab.2
    omega
theorem told_sorted {q : PR.T → Bool} {M : List TI.T} (h : Uniq M) : ((isort ltI (refOf q M)).map (toldOf M)).Pairwise fun x y => x.1 < y.1 := by
  rw [List.pairwise_map]
  exact (refs_sorted h).imp fun {a b} hab => by rw [told_fst, told_fst]; exact hab
theorem pw_get {α : Type} {R : α → α → Prop} {l : List α} (h : l.Pairwise R) {i j : Nat} {x y : α} (hij : i < j) (hx : l[i]? = some x) (hy : l[j]? = some y) : R x y := by
  obtain ⟨hi, rfl⟩ := List.getElem?_eq_some_iff.1 hx
  obtain ⟨hj, rfl⟩ := List.getElem?_eq_some_iff.1 hy
  exact (List.pairwise_iff_getElem.1 h) i j hi hj hij
end Go.Proofs.Ytjhgjbagmkiibaa.E
end
