/-
  Wheel: waits. (Printed by sx/r02.py.)
-/
import Derived.Test.YtoieblpjklbmoaaR02C
namespace Go.Proofs.Ytoieblpjklbmoaa
open Go.Lg
set_option linter.unusedVariables false
set_option maxRecDepth 100000
set_option linter.unusedSimpArgs false
theorem nx_all {l : List Int} {p x : Int} (h : okW l = true) (h0 : 0 ≤ p) (h1 : p < (l.length : Int)) (hx : l[p.toNat]? = some x) : nx l p true true true = (x, (p + 1) % (l.length : Int), 0) := by
  have hb := okW_elem h hx
  unfold nx
  rw [h, if_neg (by decide), if_neg (by omega), show at_ l p = x from at_of hx]
  rcases (show x = 0 ∨ x = 1 ∨ x = 2 by omega) with rfl | rfl | rfl <;> simp [hasW]
theorem mod_next {a b p : Int} (h : p = a % b) : (p + 1) % b = (a + 1) % b := by rw [h, Int.emod_add_emod]

theorem fn6 (b nil capd : Bool) (l : List Int) (hl : (l.length : Int) ≤ 4611686018427387904) (cl : Int) : PureC pg an 6 [.one (sv NI b nil capd l), .one (vi cl)] [.one (vb true)] := by
  refine Runs.of (fn := Try.f6) Try.func6 rfl (by kernel_rfl) [(0, .y (.one (sv NI b nil capd l))), (1, xi cl)] (by kernel_rfl) ?_
  refine Wp.regionSeq [] [(0, .y (.one (sv NI b nil capd l))), (1, xi cl)] []
    (cast trivial (by kernel_rfl)) (by kernel_rfl) ?_
  rcases Bool.eq_false_or_eq_true ((okW l)) with c1 | c1
  ·
    have hkz2 := okW_len c1
    by_cases c3 : (0 : Int) ≤ cl
    ·
      by_cases c4 : (cl : Int) < 3
      ·
        refine Wp.regionSeq [(2, .tup [.one (vi (gap l cl)), .one (vi 0)], [])] [(0, .y (.one (sv NI b nil capd l))), (1, xi cl), (5, xi (gap l cl)), (6, xi 0)] []
          (cast (And.intro (ob_pure (P := pg) (A := an) (H := []) (g := 25) (vals := [.y (.one (sv NI b nil capd l)), xi cl]) (xs0 := [.one (sv NI b nil capd l), .one (vi cl)]) (xs1 := [.one (sv NI b nil capd l), .one (vi cl)]) (res := [.one (vi (gap l cl)), .one (vi 0)]) (ats := #[]) (ty := 0) (v := .tup [.one (vi (gap l cl)), .one (vi 0)]) [.tmp 0, .tmp 1] (by kernel_rfl) (by kernel_rfl) (by kernel_rfl) (by have := fn25 b nil capd l (by omega) cl; rw [show gapW l cl = ((gap l cl), 0) from by rw [gapW, c1, show inW cl = true from by unfold inW; simp; omega]; rfl] at this; exact this) (by kernel_rfl)) trivial) (by kernel_rfl)) (by kernel_rfl) ?_
        refine Wp.seq ?_
        refine Wp.regionSeq [] [(0, .y (.one (sv NI b nil capd l))), (1, xi cl), (5, xi (gap l cl)), (6, xi 0), (24, xb false)] []
          (cast trivial (by kernel_rfl)) (by kernel_rfl) ?_
        refine Wp.condF (by kernel_rfl) ?_
        refine Wp.skip ?_
        refine Wp.regionSeq [] [(0, .y (.one (sv NI b nil capd l))), (1, xi cl), (5, xi (gap l cl)), (9, .y (.one (.ptr 0 0)))] [.obj [vb true, vb true, vb true]]
          (cast trivial (by kernel_rfl)) (by kernel_rfl) ?_
        refine Wp.regionSeq [] [(0, .y (.one (sv NI b nil capd l))), (1, xi cl), (5, xi (gap l cl)), (9, .y (.one (.ptr 0 0))), (10, xi 0)] [.obj [vb true, vb true, vb true]]
          (cast trivial (by kernel_rfl)) (by kernel_rfl) ?_
        refine Wp.seq ?_
        refine Wp.regionSeq [] [(0, .y (.one (sv NI b nil capd l))), (1, xi cl), (5, xi (gap l cl)), (9, .y (.one (.ptr 0 0))), (10, xi 0), (11, xi 0)] [.obj [vb true, vb true, vb true]]
          (cast trivial (by kernel_rfl)) (by kernel_rfl) ?_
        refine Wp.block ?_
        refine Wp.loop (T := Int × Int) (fun (t : Int × Int) => match t with | (hand, most) => (((l.length : Int) - hand).toNat : Nat)) (fun (t : Int × Int) => match t with | (hand, most) => ([(0, .y (.one (sv NI b nil capd l))), (1, xi cl), (5, xi (gap l cl)), (9, .y (.one (.ptr 0 0))), (10, xi most), (11, xi hand)] : Env)) (fun (t : Int × Int) => match t with | (hand, most) => ([.obj [vb true, vb true, vb true]] : Go.Lg.Heap))
          (fun (t : Int × Int) => match t with | (hand, most) => (0 ≤ hand ∧ hand ≤ (l.length : Int) ∧ 0 ≤ most ∧ most ≤ (l.length : Int) ∧ most = gapF l cl hand.toNat : Prop)) (0, 0) (by kernel_rfl) (by exact ⟨by omega, by omega, by omega, by omega, rfl⟩) ?_
        rintro ⟨hand, most⟩ ⟨h1, h2, h3, h4, h5⟩
        show Wp _ _ _ _ [(0, .y (.one (sv NI b nil capd l))), (1, xi cl), (5, xi (gap l cl)), (9, .y (.one (.ptr 0 0))), (10, xi most), (11, xi hand)] [.obj [vb true, vb true, vb true]] _
        refine Wp.seq ?_
        by_cases c5 : (hand : Int) < (l.length : Int)
        ·
          refine Wp.regionSeq [(3, xb true, [.obj [vb true, vb true, vb true]])] [(0, .y (.one (sv NI b nil capd l))), (1, xi cl), (5, xi (gap l cl)), (9, .y (.one (.ptr 0 0))), (10, xi most), (11, xi hand), (45, xb true)] [.obj [vb true, vb true, vb true]]
            (cast (And.intro (ob_raw (P := pg) (A := an) (vals := [xi hand, xi (l.length : Int)]) (H := [.obj [vb true, vb true, vb true]]) (op := .binOp .lss 3 (.tmp 0) (.tmp 1) 3) (ty := 0) (r := xb (decide ((hand : Int) < (l.length : Int)))) (v := xb true) (by kernel_rfl) (congrArg (fun z => xb z) (decide_eq_true (by omega)))) trivial) (by kernel_rfl)) (by kernel_rfl) ?_
          refine Wp.condT (by kernel_rfl) ?_
          refine Wp.skip ?_
          refine Wp.seq ?_
          refine Wp.block ?_
          refine Wp.regionSeq [] [(0, .y (.one (sv NI b nil capd l))), (1, xi cl), (5, xi (gap l cl)), (9, .y (.one (.ptr 0 0))), (10, xi most), (11, xi hand), (12, xi hand), (13, xi 0)] [.obj [vb true, vb true, vb true]]
            (cast trivial (by kernel_rfl)) (by kernel_rfl) ?_
          refine Wp.seq ?_
          refine Wp.block ?_
          have hd := dist_is (h := hand) c1 (show inW cl = true from by unfold inW; simp; omega) (by omega) (by omega)
          have hd1 := hd.pos
          have hd2 := hd.le
          refine Wp.loop (T := Int × Int) (fun (t : Int × Int) => match t with | (n, pos) => ((dist l cl hand - n).toNat : Nat)) (fun (t : Int × Int) => match t with | (n, pos) => ([(0, .y (.one (sv NI b nil capd l))), (1, xi cl), (5, xi (gap l cl)), (9, .y (.one (.ptr 0 0))), (10, xi most), (11, xi hand), (12, xi pos), (13, xi n)] : Env)) (fun (t : Int × Int) => match t with | (n, pos) => ([.obj [vb true, vb true, vb true]] : Go.Lg.Heap))
            (fun (t : Int × Int) => match t with | (n, pos) => (0 ≤ n ∧ n + 1 ≤ dist l cl hand ∧ 0 ≤ pos ∧ pos < (l.length : Int) ∧ pos = (hand + n) % (l.length : Int) : Prop)) (0, hand) (by kernel_rfl) (by exact ⟨by omega, by omega, by omega, by omega, by rw [Int.add_zero, Int.emod_eq_of_lt (by omega) (by omega)]⟩) ?_
          rintro ⟨n, pos⟩ ⟨g1, g2, g3, g4, g5⟩
          show Wp _ _ _ _ [(0, .y (.one (sv NI b nil capd l))), (1, xi cl), (5, xi (gap l cl)), (9, .y (.one (.ptr 0 0))), (10, xi most), (11, xi hand), (12, xi pos), (13, xi n)] [.obj [vb true, vb true, vb true]] _
          refine Wp.seq ?_
          refine Wp.regionSeq [(3, xb true, [.obj [vb true, vb true, vb true]])] [(0, .y (.one (sv NI b nil capd l))), (1, xi cl), (5, xi (gap l cl)), (9, .y (.one (.ptr 0 0))), (10, xi most), (11, xi hand), (12, xi pos), (13, xi n), (52, xb true)] [.obj [vb true, vb true, vb true]]
            (cast (And.intro (ob_raw (P := pg) (A := an) (vals := [xi n, xi (l.length : Int)]) (H := [.obj [vb true, vb true, vb true]]) (op := .binOp .leq 3 (.tmp 0) (.tmp 1) 3) (ty := 0) (r := xb (decide ((n : Int) ≤ (l.length : Int)))) (v := xb true) (by kernel_rfl) (congrArg (fun z => xb z) (decide_eq_true (by omega)))) trivial) (by kernel_rfl)) (by kernel_rfl) ?_
          refine Wp.condT (by kernel_rfl) ?_
          refine Wp.skip ?_
          refine Wp.block ?_
          obtain ⟨x6, hx6⟩ : ∃ x, l[(pos : Int).toNat]? = some x := get_of (by omega)
          have hmz7 := mod_is (a := (pos + 1)) (b := (l.length : Int)) (by omega) (by omega)
          refine Wp.regionSeq [(3, .tup [.one (vi x6), .one (vi ((pos + 1) % (l.length : Int))), .one (vi 0)], [.obj [vb true, vb true, vb true]])] [(0, .y (.one (sv NI b nil capd l))), (1, xi cl), (5, xi (gap l cl)), (9, .y (.one (.ptr 0 0))), (10, xi most), (11, xi hand), (13, xi n), (14, xi x6), (15, xi ((pos + 1) % (l.length : Int))), (16, xi 0)] [.obj [vb true, vb true, vb true]]
            (cast (And.intro (ob_pure (P := pg) (A := an) (H := [.obj [vb true, vb true, vb true]]) (g := 11) (vals := [.y (.one (sv NI b nil capd l)), xi pos, .y (.agg [vb true, vb true, vb true])]) (xs0 := [.one (sv NI b nil capd l), .one (vi pos), .agg [vb true, vb true, vb true]]) (xs1 := [.one (sv NI b nil capd l), .one (vi pos), .agg [vb true, vb true, vb true]]) (res := [.one (vi x6), .one (vi ((pos + 1) % (l.length : Int))), .one (vi 0)]) (ats := #[]) (ty := 0) (v := .tup [.one (vi x6), .one (vi ((pos + 1) % (l.length : Int))), .one (vi 0)]) [.tmp 0, .tmp 1, .tmp 2] (by kernel_rfl) (by kernel_rfl) (by kernel_rfl) (by have := fn11 b nil capd l (by omega) pos true true true; rw [nx_all c1 (by omega) (by omega) hx6] at this; exact this) (by kernel_rfl)) trivial) (by kernel_rfl)) (by kernel_rfl) ?_
          refine Wp.seq ?_
          refine Wp.regionSeq [(4, xb false, [.obj [vb true, vb true, vb true]]), (10, xb false, [.obj [vb true, vb true, vb true]])] [(0, .y (.one (sv NI b nil capd l))), (1, xi cl), (5, xi (gap l cl)), (9, .y (.one (.ptr 0 0))), (10, xi most), (11, xi hand), (13, xi n), (14, xi x6), (15, xi ((pos + 1) % (l.length : Int))), (72, xb false)] [.obj [vb true, vb true, vb true]]
            (cast (And.intro (ob_raw (P := pg) (A := an) (vals := [xi ((pos + 1) % (l.length : Int)), xi 0]) (H := [.obj [vb true, vb true, vb true]]) (op := .binOp .lss 3 (.tmp 0) (.tmp 1) 3) (ty := 0) (r := xb (decide ((((pos + 1) % (l.length : Int)) : Int) < 0))) (v := xb false) (by kernel_rfl) (congrArg (fun z => xb z) (decide_eq_false (by omega)))) (And.intro (ob_raw (P := pg) (A := an) (vals := [xi ((pos + 1) % (l.length : Int)), xi (l.length : Int)]) (H := [.obj [vb true, vb true, vb true]]) (op := .binOp .geq 3 (.tmp 0) (.tmp 1) 3) (ty := 0) (r := xb (decide ((((pos + 1) % (l.length : Int)) : Int) ≥ (l.length : Int)))) (v := xb false) (by kernel_rfl) (congrArg (fun z => xb z) (decide_eq_false (by omega)))) trivial)) (by kernel_rfl)) (by kernel_rfl) ?_
          refine Wp.condF (by kernel_rfl) ?_
          refine Wp.skip ?_
          refine Wp.regionSeq [(1, xi (n + 1), [.obj [vb true, vb true, vb true]])] [(0, .y (.one (sv NI b nil capd l))), (1, xi cl), (5, xi (gap l cl)), (9, .y (.one (.ptr 0 0))), (10, xi most), (11, xi hand), (13, xi (n + 1)), (14, xi x6), (15, xi ((pos + 1) % (l.length : Int)))] [.obj [vb true, vb true, vb true]]
            (cast (And.intro (ob_raw (P := pg) (A := an) (vals := [xi n, xi 1]) (H := [.obj [vb true, vb true, vb true]]) (op := .binOp .add 3 (.tmp 0) (.tmp 1) 3) (ty := 0) (r := xi (IntKind.wrap .i64 (n + 1))) (v := xi (n + 1)) (by kernel_rfl) (congrArg (fun z => xi z) ((wrap64 (by omega)).trans (by omega)))) trivial) (by kernel_rfl)) (by kernel_rfl) ?_
          refine Wp.regionSeq [] [(0, .y (.one (sv NI b nil capd l))), (1, xi cl), (5, xi (gap l cl)), (9, .y (.one (.ptr 0 0))), (10, xi most), (11, xi hand), (12, xi ((pos + 1) % (l.length : Int))), (13, xi (n + 1)), (14, xi x6)] [.obj [vb true, vb true, vb true]]
            (cast trivial (by kernel_rfl)) (by kernel_rfl) ?_
          by_cases c9 : (x6 : Int) = cl
          ·
            refine Wp.regionSeq [(2, xb true, [.obj [vb true, vb true, vb true]])] [(0, .y (.one (sv NI b nil capd l))), (1, xi cl), (5, xi (gap l cl)), (9, .y (.one (.ptr 0 0))), (10, xi most), (11, xi hand), (12, xi ((pos + 1) % (l.length : Int))), (13, xi (n + 1)), (78, xb true)] [.obj [vb true, vb true, vb true]]
              (cast (And.intro (ob_raw (P := pg) (A := an) (vals := [xi x6, xi cl]) (H := [.obj [vb true, vb true, vb true]]) (op := .binOp .eql 3 (.tmp 0) (.tmp 1) 3) (ty := 0) (r := xb ((x6 : Int) == cl)) (v := xb true) (by kernel_rfl) (congrArg (fun z => xb z) (beq_t (by omega)))) trivial) (by kernel_rfl)) (by kernel_rfl) ?_
            refine Wp.condT (by kernel_rfl) ?_
            refine Wp.exit ?_
            refine Eq.mpr (if_neg (by decide)) ?_
            refine Eq.mpr (if_pos rfl) ?_
            by_cases c10 : (most : Int) < (n + 1)
            ·
              refine Wp.region [(2, xi (n + 1), [.obj [vb true, vb true, vb true]])] [(0, .y (.one (sv NI b nil capd l))), (1, xi cl), (5, xi (gap l cl)), (9, .y (.one (.ptr 0 0))), (10, xi (n + 1)), (11, xi hand)] [.obj [vb true, vb true, vb true]]
                (cast (And.intro (ob_raw (P := pg) (A := an) (vals := [xi most, xi (n + 1)]) (H := [.obj [vb true, vb true, vb true]]) (op := .call { callee := .builtin .max, args := #[.tmp 0, .tmp 1], argTypes := #[3, 3] }) (ty := 0) (r := xi (if ((n + 1) : Int) > most then (n + 1) else most)) (v := xi (n + 1)) (by kernel_rfl) (congrArg (fun z => xi z) (if_pos (by omega)))) trivial) (by kernel_rfl)) (by kernel_rfl) ?_
              refine Wp.region [(1, xi (hand + 1), [.obj [vb true, vb true, vb true]])] [(0, .y (.one (sv NI b nil capd l))), (1, xi cl), (5, xi (gap l cl)), (9, .y (.one (.ptr 0 0))), (10, xi (n + 1)), (11, xi (hand + 1))] [.obj [vb true, vb true, vb true]]
                (cast (And.intro (ob_raw (P := pg) (A := an) (vals := [xi hand, xi 1]) (H := [.obj [vb true, vb true, vb true]]) (op := .binOp .add 3 (.tmp 0) (.tmp 1) 3) (ty := 0) (r := xi (IntKind.wrap .i64 (hand + 1))) (v := xi (hand + 1)) (by kernel_rfl) (congrArg (fun z => xi z) ((wrap64 (by omega)).trans (by omega)))) trivial) (by kernel_rfl)) (by kernel_rfl) ?_
              exact ⟨((hand + 1), (n + 1)), by kernel_rfl, (by have hg := gapF_step (l := l) (c := cl) (h := hand) (by omega) h5; have hn := hd.last (n := n + 1) (by omega) (by omega) (by rw [show hand + (n + 1) - 1 = hand + n by omega, ← g5]; exact hx6) c9; refine ⟨by omega, by omega, by omega, by omega, ?_⟩; rw [hg]; first | (rw [if_pos (by omega)]; omega) | (rw [if_neg (by omega)])), (by show (_ : Nat) < _; simp only []; omega)⟩
            ·
              refine Wp.region [(2, xi most, [.obj [vb true, vb true, vb true]])] [(0, .y (.one (sv NI b nil capd l))), (1, xi cl), (5, xi (gap l cl)), (9, .y (.one (.ptr 0 0))), (10, xi most), (11, xi hand)] [.obj [vb true, vb true, vb true]]
                (cast (And.intro (ob_raw (P := pg) (A := an) (vals := [xi most, xi (n + 1)]) (H := [.obj [vb true, vb true, vb true]]) (op := .call { callee := .builtin .max, args := #[.tmp 0, .tmp 1], argTypes := #[3, 3] }) (ty := 0) (r := xi (if ((n + 1) : Int) > most then (n + 1) else most)) (v := xi most) (by kernel_rfl) (congrArg (fun z => xi z) (if_neg (by omega)))) trivial) (by kernel_rfl)) (by kernel_rfl) ?_
              refine Wp.region [(1, xi (hand + 1), [.obj [vb true, vb true, vb true]])] [(0, .y (.one (sv NI b nil capd l))), (1, xi cl), (5, xi (gap l cl)), (9, .y (.one (.ptr 0 0))), (10, xi most), (11, xi (hand + 1))] [.obj [vb true, vb true, vb true]]
                (cast (And.intro (ob_raw (P := pg) (A := an) (vals := [xi hand, xi 1]) (H := [.obj [vb true, vb true, vb true]]) (op := .binOp .add 3 (.tmp 0) (.tmp 1) 3) (ty := 0) (r := xi (IntKind.wrap .i64 (hand + 1))) (v := xi (hand + 1)) (by kernel_rfl) (congrArg (fun z => xi z) ((wrap64 (by omega)).trans (by omega)))) trivial) (by kernel_rfl)) (by kernel_rfl) ?_
              exact ⟨((hand + 1), most), by kernel_rfl, (by have hg := gapF_step (l := l) (c := cl) (h := hand) (by omega) h5; have hn := hd.last (n := n + 1) (by omega) (by omega) (by rw [show hand + (n + 1) - 1 = hand + n by omega, ← g5]; exact hx6) c9; refine ⟨by omega, by omega, by omega, by omega, ?_⟩; rw [hg]; first | (rw [if_pos (by omega)]; omega) | (rw [if_neg (by omega)])), (by show (_ : Nat) < _; simp only []; omega)⟩
          ·
            refine Wp.regionSeq [(2, xb false, [.obj [vb true, vb true, vb true]])] [(0, .y (.one (sv NI b nil capd l))), (1, xi cl), (5, xi (gap l cl)), (9, .y (.one (.ptr 0 0))), (10, xi most), (11, xi hand), (12, xi ((pos + 1) % (l.length : Int))), (13, xi (n + 1)), (78, xb false)] [.obj [vb true, vb true, vb true]]
              (cast (And.intro (ob_raw (P := pg) (A := an) (vals := [xi x6, xi cl]) (H := [.obj [vb true, vb true, vb true]]) (op := .binOp .eql 3 (.tmp 0) (.tmp 1) 3) (ty := 0) (r := xb ((x6 : Int) == cl)) (v := xb false) (by kernel_rfl) (congrArg (fun z => xb z) (beq_f (by omega)))) trivial) (by kernel_rfl)) (by kernel_rfl) ?_
            refine Wp.condF (by kernel_rfl) ?_
            refine Wp.skip ?_
            exact ⟨((n + 1), ((pos + 1) % (l.length : Int))), by kernel_rfl, (by have hn := hd.next (n := n + 1) (by omega) (by rw [show hand + (n + 1) - 1 = hand + n by omega, ← g5]; exact hx6) c9; exact ⟨by omega, by omega, by omega, by omega, by rw [mod_next g5, show hand + n + 1 = hand + (n + 1) by omega]⟩), (by have hn := hd.next (n := n + 1) (by omega) (by rw [show hand + (n + 1) - 1 = hand + n by omega, ← g5]; exact hx6) c9; show (_ : Nat) < _; simp only []; omega)⟩
        ·
          refine Wp.regionSeq [(3, xb false, [.obj [vb true, vb true, vb true]])] [(0, .y (.one (sv NI b nil capd l))), (1, xi cl), (5, xi (gap l cl)), (9, .y (.one (.ptr 0 0))), (10, xi most), (11, xi hand), (45, xb false)] [.obj [vb true, vb true, vb true]]
            (cast (And.intro (ob_raw (P := pg) (A := an) (vals := [xi hand, xi (l.length : Int)]) (H := [.obj [vb true, vb true, vb true]]) (op := .binOp .lss 3 (.tmp 0) (.tmp 1) 3) (ty := 0) (r := xb (decide ((hand : Int) < (l.length : Int)))) (v := xb false) (by kernel_rfl) (congrArg (fun z => xb z) (decide_eq_false (by omega)))) trivial) (by kernel_rfl)) (by kernel_rfl) ?_
          refine Wp.condF (by kernel_rfl) ?_
          refine Wp.exit ?_
          refine Eq.mpr (if_pos rfl) ?_
          have hfin : most = gap l cl := by { rw [h5, show hand.toNat = l.length by omega]; rfl }
          refine Wp.regionSeq [(2, xb true, [.obj [vb true, vb true, vb true]]), (4, xb true, [.obj [vb true, vb true, vb true]])] [(4, xb true)] [.obj [vb true, vb true, vb true]]
            (cast (And.intro (ob_raw (P := pg) (A := an) (vals := [xi most, xi (gap l cl)]) (H := [.obj [vb true, vb true, vb true]]) (op := .binOp .eql 3 (.tmp 0) (.tmp 1) 3) (ty := 0) (r := xb ((most : Int) == (gap l cl))) (v := xb true) (by kernel_rfl) (congrArg (fun z => xb z) (beq_t (by omega)))) (And.intro (ob_pure (P := pg) (A := an) (H := [.obj [vb true, vb true, vb true]]) (g := 16) (vals := []) (xs0 := []) (xs1 := []) (res := [.one (vb true)]) (ats := #[]) (ty := 0) (v := xb true) [] (by kernel_rfl) (by kernel_rfl) (by kernel_rfl) fn16 (by kernel_rfl)) trivial)) (by kernel_rfl)) (by kernel_rfl) ?_
          refine Wp.ret ?_
          exact ⟨Or.inr rfl, [.one (vb true)], by kernel_rfl, rfl⟩
      ·
        refine Wp.regionSeq [(2, .tup [.one (vi 0), .one (vi 1)], [])] [(0, .y (.one (sv NI b nil capd l))), (1, xi cl), (5, xi 0), (6, xi 1)] []
          (cast (And.intro (ob_pure (P := pg) (A := an) (H := []) (g := 25) (vals := [.y (.one (sv NI b nil capd l)), xi cl]) (xs0 := [.one (sv NI b nil capd l), .one (vi cl)]) (xs1 := [.one (sv NI b nil capd l), .one (vi cl)]) (res := [.one (vi 0), .one (vi 1)]) (ats := #[]) (ty := 0) (v := .tup [.one (vi 0), .one (vi 1)]) [.tmp 0, .tmp 1] (by kernel_rfl) (by kernel_rfl) (by kernel_rfl) (by have := fn25 b nil capd l (by omega) cl; rw [show gapW l cl = (0, 1) from by rw [gapW, c1, show inW cl = false from by unfold inW; simp; omega]; rfl] at this; exact this) (by kernel_rfl)) trivial) (by kernel_rfl)) (by kernel_rfl) ?_
        refine Wp.seq ?_
        refine Wp.regionSeq [] [(0, .y (.one (sv NI b nil capd l))), (1, xi cl), (5, xi 0), (6, xi 1), (24, xb true)] []
          (cast trivial (by kernel_rfl)) (by kernel_rfl) ?_
        refine Wp.condT (by kernel_rfl) ?_
        refine Wp.regionSeq [(2, .tup [.one (vi 0), .one (vi 1)], [])] [(5, xi 0), (6, xi 1), (8, xi 1)] []
          (cast (And.intro (ob_pure (P := pg) (A := an) (H := []) (g := 26) (vals := [.y (.one (sv NI b nil capd l)), xi cl]) (xs0 := [.one (sv NI b nil capd l), .one (vi cl)]) (xs1 := [.one (sv NI b nil capd l), .one (vi cl)]) (res := [.one (vi 0), .one (vi 1)]) (ats := #[]) (ty := 0) (v := .tup [.one (vi 0), .one (vi 1)]) [.tmp 0, .tmp 1] (by kernel_rfl) (by kernel_rfl) (by kernel_rfl) (by have := fn26 b nil capd l (by omega) cl; rw [show gapW l cl = (0, 1) from by rw [gapW, c1, show inW cl = false from by unfold inW; simp; omega]; rfl] at this; exact this) (by kernel_rfl)) trivial) (by kernel_rfl)) (by kernel_rfl) ?_
        refine Wp.regionSeq [(8, xb true, [])] [(4, xb true)] []
          (cast (And.intro (ob_pure (P := pg) (A := an) (H := []) (g := 16) (vals := []) (xs0 := []) (xs1 := []) (res := [.one (vb true)]) (ats := #[]) (ty := 0) (v := xb true) [] (by kernel_rfl) (by kernel_rfl) (by kernel_rfl) fn16 (by kernel_rfl)) trivial) (by kernel_rfl)) (by kernel_rfl) ?_
        refine Wp.ret ?_
        exact ⟨Or.inr rfl, [.one (vb true)], by kernel_rfl, rfl⟩
    ·
      refine Wp.regionSeq [(2, .tup [.one (vi 0), .one (vi 1)], [])] [(0, .y (.one (sv NI b nil capd l))), (1, xi cl), (5, xi 0), (6, xi 1)] []
        (cast (And.intro (ob_pure (P := pg) (A := an) (H := []) (g := 25) (vals := [.y (.one (sv NI b nil capd l)), xi cl]) (xs0 := [.one (sv NI b nil capd l), .one (vi cl)]) (xs1 := [.one (sv NI b nil capd l), .one (vi cl)]) (res := [.one (vi 0), .one (vi 1)]) (ats := #[]) (ty := 0) (v := .tup [.one (vi 0), .one (vi 1)]) [.tmp 0, .tmp 1] (by kernel_rfl) (by kernel_rfl) (by kernel_rfl) (by have := fn25 b nil capd l (by omega) cl; rw [show gapW l cl = (0, 1) from by rw [gapW, c1, show inW cl = false from by unfold inW; simp; omega]; rfl] at this; exact this) (by kernel_rfl)) trivial) (by kernel_rfl)) (by kernel_rfl) ?_
      refine Wp.seq ?_
      refine Wp.regionSeq [] [(0, .y (.one (sv NI b nil capd l))), (1, xi cl), (5, xi 0), (6, xi 1), (24, xb true)] []
        (cast trivial (by kernel_rfl)) (by kernel_rfl) ?_
      refine Wp.condT (by kernel_rfl) ?_
      refine Wp.regionSeq [(2, .tup [.one (vi 0), .one (vi 1)], [])] [(5, xi 0), (6, xi 1), (8, xi 1)] []
        (cast (And.intro (ob_pure (P := pg) (A := an) (H := []) (g := 26) (vals := [.y (.one (sv NI b nil capd l)), xi cl]) (xs0 := [.one (sv NI b nil capd l), .one (vi cl)]) (xs1 := [.one (sv NI b nil capd l), .one (vi cl)]) (res := [.one (vi 0), .one (vi 1)]) (ats := #[]) (ty := 0) (v := .tup [.one (vi 0), .one (vi 1)]) [.tmp 0, .tmp 1] (by kernel_rfl) (by kernel_rfl) (by kernel_rfl) (by have := fn26 b nil capd l (by omega) cl; rw [show gapW l cl = (0, 1) from by rw [gapW, c1, show inW cl = false from by unfold inW; simp; omega]; rfl] at this; exact this) (by kernel_rfl)) trivial) (by kernel_rfl)) (by kernel_rfl) ?_
      refine Wp.regionSeq [(8, xb true, [])] [(4, xb true)] []
        (cast (And.intro (ob_pure (P := pg) (A := an) (H := []) (g := 16) (vals := []) (xs0 := []) (xs1 := []) (res := [.one (vb true)]) (ats := #[]) (ty := 0) (v := xb true) [] (by kernel_rfl) (by kernel_rfl) (by kernel_rfl) fn16 (by kernel_rfl)) trivial) (by kernel_rfl)) (by kernel_rfl) ?_
      refine Wp.ret ?_
      exact ⟨Or.inr rfl, [.one (vb true)], by kernel_rfl, rfl⟩
  ·
    refine Wp.regionSeq [(2, .tup [.one (vi 0), .one (vi 20)], [])] [(0, .y (.one (sv NI b nil capd l))), (1, xi cl), (5, xi 0), (6, xi 20)] []
      (cast (And.intro (ob_pure (P := pg) (A := an) (H := []) (g := 25) (vals := [.y (.one (sv NI b nil capd l)), xi cl]) (xs0 := [.one (sv NI b nil capd l), .one (vi cl)]) (xs1 := [.one (sv NI b nil capd l), .one (vi cl)]) (res := [.one (vi 0), .one (vi 20)]) (ats := #[]) (ty := 0) (v := .tup [.one (vi 0), .one (vi 20)]) [.tmp 0, .tmp 1] (by kernel_rfl) (by kernel_rfl) (by kernel_rfl) (by have := fn25 b nil capd l (by omega) cl; rw [show gapW l cl = (0, 20) from by rw [gapW, c1]; rfl] at this; exact this) (by kernel_rfl)) trivial) (by kernel_rfl)) (by kernel_rfl) ?_
    refine Wp.seq ?_
    refine Wp.regionSeq [] [(0, .y (.one (sv NI b nil capd l))), (1, xi cl), (5, xi 0), (6, xi 20), (24, xb true)] []
      (cast trivial (by kernel_rfl)) (by kernel_rfl) ?_
    refine Wp.condT (by kernel_rfl) ?_
    refine Wp.regionSeq [(2, .tup [.one (vi 0), .one (vi 20)], [])] [(5, xi 0), (6, xi 20), (8, xi 20)] []
      (cast (And.intro (ob_pure (P := pg) (A := an) (H := []) (g := 26) (vals := [.y (.one (sv NI b nil capd l)), xi cl]) (xs0 := [.one (sv NI b nil capd l), .one (vi cl)]) (xs1 := [.one (sv NI b nil capd l), .one (vi cl)]) (res := [.one (vi 0), .one (vi 20)]) (ats := #[]) (ty := 0) (v := .tup [.one (vi 0), .one (vi 20)]) [.tmp 0, .tmp 1] (by kernel_rfl) (by kernel_rfl) (by kernel_rfl) (by have := fn26 b nil capd l (by omega) cl; rw [show gapW l cl = (0, 20) from by rw [gapW, c1]; rfl] at this; exact this) (by kernel_rfl)) trivial) (by kernel_rfl)) (by kernel_rfl) ?_
    refine Wp.regionSeq [(8, xb true, [])] [(4, xb true)] []
      (cast (And.intro (ob_pure (P := pg) (A := an) (H := []) (g := 16) (vals := []) (xs0 := []) (xs1 := []) (res := [.one (vb true)]) (ats := #[]) (ty := 0) (v := xb true) [] (by kernel_rfl) (by kernel_rfl) (by kernel_rfl) fn16 (by kernel_rfl)) trivial) (by kernel_rfl)) (by kernel_rfl) ?_
    refine Wp.ret ?_
    exact ⟨Or.inr rfl, [.one (vb true)], by kernel_rfl, rfl⟩
end Go.Proofs.Ytoieblpjklbmoaa
