/-
  Wheel: gap. (Printed by sx/r02.py.)
-/
import Derived.Test.YtoieblpjklbmoaaR02B
namespace Go.Proofs.Ytoieblpjklbmoaa
open Go.Lg
set_option linter.unusedVariables false
set_option maxRecDepth 100000
set_option linter.unusedSimpArgs false
def gapW (l : List Int) (c : Int) : Int × Int := if okW l = false then (0, 20) else if inW c = false then (0, 1) else (gap l c, 0)
theorem fn25 (b nil capd : Bool) (l : List Int) (hl : (l.length : Int) ≤ 4611686018427387904) (cl : Int) : PureC pg an 25 [.one (sv NI b nil capd l), .one (vi cl)] [.one (vi (gapW l cl).1), .one (vi (gapW l cl).2)] := by
  refine Runs.of (fn := Try.f25) Try.func25 rfl (by kernel_rfl) [(0, .y (.one (sv NI b nil capd l))), (1, xi cl)] (by kernel_rfl) ?_
  refine Wp.regionSeq [] [(0, .y (.one (sv NI b nil capd l))), (1, xi cl)] []
    (cast trivial (by kernel_rfl)) (by kernel_rfl) ?_
  refine Wp.seq ?_
  rcases Bool.eq_false_or_eq_true ((okW l)) with c1 | c1
  ·
    have hkz2 := okW_len c1
    refine Wp.regionSeq [(1, xi 0, [])] [(0, .y (.one (sv NI b nil capd l))), (1, xi cl), (6, xi 0)] []
      (cast (And.intro (ob_pure (P := pg) (A := an) (H := []) (g := 13) (vals := [.y (.one (sv NI b nil capd l))]) (xs0 := [.one (sv NI b nil capd l)]) (xs1 := [.one (sv NI b nil capd l)]) (res := [.one (vi 0)]) (ats := #[]) (ty := 0) (v := xi 0) [.tmp 0] (by kernel_rfl) (by kernel_rfl) (by kernel_rfl) (by have := fn13 b nil capd l (by omega); rw [c1] at this; exact this) (by kernel_rfl)) trivial) (by kernel_rfl)) (by kernel_rfl) ?_
    refine Wp.regionSeq [] [(0, .y (.one (sv NI b nil capd l))), (1, xi cl), (6, xi 0), (13, xb false)] []
      (cast trivial (by kernel_rfl)) (by kernel_rfl) ?_
    refine Wp.condF (by kernel_rfl) ?_
    refine Wp.skip ?_
    refine Wp.seq ?_
    by_cases c3 : (0 : Int) ≤ cl
    ·
      by_cases c4 : (cl : Int) < 3
      ·
        refine Wp.regionSeq [(1, xb true, [])] [(0, .y (.one (sv NI b nil capd l))), (1, xi cl), (17, xb false)] []
          (cast (And.intro (ob_pure (P := pg) (A := an) (H := []) (g := 29) (vals := [xi cl]) (xs0 := [.one (vi cl)]) (xs1 := [.one (vi cl)]) (res := [.one (vb true)]) (ats := #[]) (ty := 0) (v := xb true) [.tmp 0] (by kernel_rfl) (by kernel_rfl) (by kernel_rfl) (by have := fn29 cl; rw [show inW cl = true from by unfold inW; simp; omega] at this; exact this) (by kernel_rfl)) trivial) (by kernel_rfl)) (by kernel_rfl) ?_
        refine Wp.condF (by kernel_rfl) ?_
        refine Wp.skip ?_
        refine Wp.regionSeq [] [(0, .y (.one (sv NI b nil capd l))), (1, xi cl), (7, xi 0)] []
          (cast trivial (by kernel_rfl)) (by kernel_rfl) ?_
        refine Wp.seq ?_
        refine Wp.regionSeq [] [(0, .y (.one (sv NI b nil capd l))), (1, xi cl), (7, xi 0), (19, xi (l.length : Int)), (20, xi 0)] []
          (cast trivial (by kernel_rfl)) (by kernel_rfl) ?_
        refine Wp.block ?_
        refine Wp.loop (T := Int × Int) (fun (t : Int × Int) => match t with | (hand, most) => (((l.length : Int) - hand).toNat : Nat)) (fun (t : Int × Int) => match t with | (hand, most) => ([(0, .y (.one (sv NI b nil capd l))), (1, xi cl), (7, xi most), (19, xi (l.length : Int)), (20, xi hand)] : Env)) (fun (t : Int × Int) => match t with | (hand, most) => ([] : Go.Lg.Heap))
          (fun (t : Int × Int) => match t with | (hand, most) => (0 ≤ hand ∧ hand ≤ (l.length : Int) ∧ 0 ≤ most ∧ most ≤ (l.length : Int) ∧ most = gapF l cl hand.toNat : Prop)) (0, 0) (by kernel_rfl) (by exact ⟨by omega, by omega, by omega, by omega, rfl⟩) ?_
        rintro ⟨hand, most⟩ ⟨h1, h2, h3, h4, h5⟩
        show Wp _ _ _ _ [(0, .y (.one (sv NI b nil capd l))), (1, xi cl), (7, xi most), (19, xi (l.length : Int)), (20, xi hand)] [] _
        by_cases c5 : (hand : Int) < (l.length : Int)
        ·
          refine Wp.regionSeq [(0, xb true, [])] [(0, .y (.one (sv NI b nil capd l))), (1, xi cl), (7, xi most), (19, xi (l.length : Int)), (20, xi hand), (21, xb true)] []
            (cast (And.intro (ob_raw (P := pg) (A := an) (vals := [xi hand, xi (l.length : Int)]) (H := []) (op := .binOp .lss 3 (.tmp 0) (.tmp 1) 3) (ty := 0) (r := xb (decide ((hand : Int) < (l.length : Int)))) (v := xb true) (by kernel_rfl) (congrArg (fun z => xb z) (decide_eq_true (by omega)))) trivial) (by kernel_rfl)) (by kernel_rfl) ?_
          refine Wp.seq ?_
          refine Wp.condT (by kernel_rfl) ?_
          refine Wp.skip ?_
          refine Wp.seq ?_
          refine Wp.block ?_
          refine Wp.regionSeq [] [(0, .y (.one (sv NI b nil capd l))), (1, xi cl), (7, xi most), (8, xi hand), (19, xi (l.length : Int)), (20, xi hand)] []
            (cast trivial (by kernel_rfl)) (by kernel_rfl) ?_
          refine Wp.regionSeq [] [(0, .y (.one (sv NI b nil capd l))), (1, xi cl), (7, xi most), (8, xi hand), (9, xi 1), (19, xi (l.length : Int)), (20, xi hand)] []
            (cast trivial (by kernel_rfl)) (by kernel_rfl) ?_
          refine Wp.seq ?_
          refine Wp.block ?_
          have hd := dist_is (h := hand) c1 (show inW cl = true from by unfold inW; simp; omega) (by omega) (by omega)
          have hd1 := hd.pos
          have hd2 := hd.le
          refine Wp.loop (T := Int) (fun (t : Int) => let n := t; ((dist l cl hand - n).toNat : Nat)) (fun (t : Int) => let n := t; ([(0, .y (.one (sv NI b nil capd l))), (1, xi cl), (7, xi most), (8, xi hand), (9, xi n), (19, xi (l.length : Int)), (20, xi hand)] : Env)) (fun (t : Int) => let n := t; ([] : Go.Lg.Heap))
            (fun (t : Int) => let n := t; (1 ≤ n ∧ n ≤ dist l cl hand : Prop)) 1 (by kernel_rfl) (by refine ⟨?_, ?_⟩ <;> omega) ?_
          rintro n ⟨g1, g2⟩
          show Wp _ _ _ _ [(0, .y (.one (sv NI b nil capd l))), (1, xi cl), (7, xi most), (8, xi hand), (9, xi n), (19, xi (l.length : Int)), (20, xi hand)] [] _
          refine Wp.seq ?_
          have hmz6 := mod_is (a := (hand + n - 1)) (b := (l.length : Int)) (by omega) (by omega)
          obtain ⟨x8, hx8⟩ : ∃ x, l[(((hand + n - 1) % (l.length : Int)) : Int).toNat]? = some x := get_of (by omega)
          by_cases c10 : (x8 : Int) = cl
          ·
            refine Wp.regionSeq [(3, xi (hand + n), []), (4, xi (hand + n - 1), []), (7, xi ((hand + n - 1) % (l.length : Int)), []), (8, .y (.one (.rd ([vi x8] ++ (l.drop ((((hand + n - 1) % (l.length : Int)) : Int).toNat + 1)).flatMap (enc NI)))), []), (11, xb false, [])] [(0, .y (.one (sv NI b nil capd l))), (1, xi cl), (7, xi most), (8, xi hand), (9, xi n), (19, xi (l.length : Int)), (20, xi hand), (34, xb false)] []
              (cast (And.intro (ob_raw (P := pg) (A := an) (vals := [xi hand, xi n]) (H := []) (op := .binOp .add 3 (.tmp 0) (.tmp 1) 3) (ty := 0) (r := xi (IntKind.wrap .i64 (hand + n))) (v := xi (hand + n)) (by kernel_rfl) (congrArg (fun z => xi z) ((wrap64 (by omega)).trans (by omega)))) (And.intro (ob_raw (P := pg) (A := an) (vals := [xi (hand + n), xi 1]) (H := []) (op := .binOp .sub 3 (.tmp 0) (.tmp 1) 3) (ty := 0) (r := xi (IntKind.wrap .i64 ((hand + n) - 1))) (v := xi (hand + n - 1)) (by kernel_rfl) (congrArg (fun z => xi z) ((wrap64 (by omega)).trans (by omega)))) (And.intro (ob_rem (P := pg) (A := an) (H := []) (t := 3) (u := 3) (ty := 0) (a := (hand + n - 1)) (b := (l.length : Int)) (by omega) (by omega)) (And.intro (ob_index (P := pg) (A := an) (H := []) (s := NI) (b := b) (nil := nil) (capd := capd) (t := 22) (el := 3) (i := ((hand + n - 1) % (l.length : Int))) Try.underlying22 (by kernel_rfl) (by kernel_rfl) (by omega) hx8) (And.intro (ob_raw (P := pg) (A := an) (vals := [xi x8, xi cl]) (H := []) (op := .binOp .neq 3 (.tmp 0) (.tmp 1) 3) (ty := 0) (r := xb ((x8 : Int) != cl)) (v := xb false) (by kernel_rfl) (congrArg (fun z => xb z) (bne_f (by omega)))) trivial))))) (by kernel_rfl)) (by kernel_rfl) ?_
            refine Wp.condF (by kernel_rfl) ?_
            refine Wp.exit ?_
            refine Eq.mpr (if_pos rfl) ?_
            by_cases c12 : (most : Int) < n
            ·
              refine Wp.region [(2, xi n, [])] [(0, .y (.one (sv NI b nil capd l))), (1, xi cl), (7, xi n), (19, xi (l.length : Int)), (20, xi hand)] []
                (cast (And.intro (ob_raw (P := pg) (A := an) (vals := [xi most, xi n]) (H := []) (op := .call { callee := .builtin .max, args := #[.tmp 0, .tmp 1], argTypes := #[3, 3] }) (ty := 0) (r := xi (if (n : Int) > most then n else most)) (v := xi n) (by kernel_rfl) (congrArg (fun z => xi z) (if_pos (by omega)))) trivial) (by kernel_rfl)) (by kernel_rfl) ?_
              refine Wp.region [(0, xi (hand + 1), [])] [(0, .y (.one (sv NI b nil capd l))), (1, xi cl), (7, xi n), (19, xi (l.length : Int)), (20, xi (hand + 1))] []
                (cast (And.intro (ob_raw (P := pg) (A := an) (vals := [xi hand, xi 1]) (H := []) (op := .binOp .add 3 (.tmp 0) (.tmp 1) 3) (ty := 0) (r := xi (IntKind.wrap .i64 (hand + 1))) (v := xi (hand + 1)) (by kernel_rfl) (congrArg (fun z => xi z) ((wrap64 (by omega)).trans (by omega)))) trivial) (by kernel_rfl)) (by kernel_rfl) ?_
              exact ⟨((hand + 1), n), by kernel_rfl, (by have hg := gapF_step (l := l) (c := cl) (h := hand) (by omega) h5; have hn := hd.last (n := n) (by omega) (by omega) hx8 c10; refine ⟨by omega, by omega, by omega, by omega, ?_⟩; rw [hg]; first | (rw [if_pos (by omega)]; omega) | (rw [if_neg (by omega)])), (by show (_ : Nat) < _; simp only []; omega)⟩
            ·
              refine Wp.region [(2, xi most, [])] [(0, .y (.one (sv NI b nil capd l))), (1, xi cl), (7, xi most), (19, xi (l.length : Int)), (20, xi hand)] []
                (cast (And.intro (ob_raw (P := pg) (A := an) (vals := [xi most, xi n]) (H := []) (op := .call { callee := .builtin .max, args := #[.tmp 0, .tmp 1], argTypes := #[3, 3] }) (ty := 0) (r := xi (if (n : Int) > most then n else most)) (v := xi most) (by kernel_rfl) (congrArg (fun z => xi z) (if_neg (by omega)))) trivial) (by kernel_rfl)) (by kernel_rfl) ?_
              refine Wp.region [(0, xi (hand + 1), [])] [(0, .y (.one (sv NI b nil capd l))), (1, xi cl), (7, xi most), (19, xi (l.length : Int)), (20, xi (hand + 1))] []
                (cast (And.intro (ob_raw (P := pg) (A := an) (vals := [xi hand, xi 1]) (H := []) (op := .binOp .add 3 (.tmp 0) (.tmp 1) 3) (ty := 0) (r := xi (IntKind.wrap .i64 (hand + 1))) (v := xi (hand + 1)) (by kernel_rfl) (congrArg (fun z => xi z) ((wrap64 (by omega)).trans (by omega)))) trivial) (by kernel_rfl)) (by kernel_rfl) ?_
              exact ⟨((hand + 1), most), by kernel_rfl, (by have hg := gapF_step (l := l) (c := cl) (h := hand) (by omega) h5; have hn := hd.last (n := n) (by omega) (by omega) hx8 c10; refine ⟨by omega, by omega, by omega, by omega, ?_⟩; rw [hg]; first | (rw [if_pos (by omega)]; omega) | (rw [if_neg (by omega)])), (by show (_ : Nat) < _; simp only []; omega)⟩
          ·
            refine Wp.regionSeq [(3, xi (hand + n), []), (4, xi (hand + n - 1), []), (7, xi ((hand + n - 1) % (l.length : Int)), []), (8, .y (.one (.rd ([vi x8] ++ (l.drop ((((hand + n - 1) % (l.length : Int)) : Int).toNat + 1)).flatMap (enc NI)))), []), (11, xb true, [])] [(0, .y (.one (sv NI b nil capd l))), (1, xi cl), (7, xi most), (8, xi hand), (9, xi n), (19, xi (l.length : Int)), (20, xi hand), (34, xb true)] []
              (cast (And.intro (ob_raw (P := pg) (A := an) (vals := [xi hand, xi n]) (H := []) (op := .binOp .add 3 (.tmp 0) (.tmp 1) 3) (ty := 0) (r := xi (IntKind.wrap .i64 (hand + n))) (v := xi (hand + n)) (by kernel_rfl) (congrArg (fun z => xi z) ((wrap64 (by omega)).trans (by omega)))) (And.intro (ob_raw (P := pg) (A := an) (vals := [xi (hand + n), xi 1]) (H := []) (op := .binOp .sub 3 (.tmp 0) (.tmp 1) 3) (ty := 0) (r := xi (IntKind.wrap .i64 ((hand + n) - 1))) (v := xi (hand + n - 1)) (by kernel_rfl) (congrArg (fun z => xi z) ((wrap64 (by omega)).trans (by omega)))) (And.intro (ob_rem (P := pg) (A := an) (H := []) (t := 3) (u := 3) (ty := 0) (a := (hand + n - 1)) (b := (l.length : Int)) (by omega) (by omega)) (And.intro (ob_index (P := pg) (A := an) (H := []) (s := NI) (b := b) (nil := nil) (capd := capd) (t := 22) (el := 3) (i := ((hand + n - 1) % (l.length : Int))) Try.underlying22 (by kernel_rfl) (by kernel_rfl) (by omega) hx8) (And.intro (ob_raw (P := pg) (A := an) (vals := [xi x8, xi cl]) (H := []) (op := .binOp .neq 3 (.tmp 0) (.tmp 1) 3) (ty := 0) (r := xb ((x8 : Int) != cl)) (v := xb true) (by kernel_rfl) (congrArg (fun z => xb z) (bne_t (by omega)))) trivial))))) (by kernel_rfl)) (by kernel_rfl) ?_
            refine Wp.condT (by kernel_rfl) ?_
            refine Wp.skip ?_
            refine Wp.block ?_
            refine Wp.region [(1, xi (n + 1), [])] [(0, .y (.one (sv NI b nil capd l))), (1, xi cl), (7, xi most), (8, xi hand), (9, xi (n + 1)), (19, xi (l.length : Int)), (20, xi hand)] []
              (cast (And.intro (ob_raw (P := pg) (A := an) (vals := [xi n, xi 1]) (H := []) (op := .binOp .add 3 (.tmp 0) (.tmp 1) 3) (ty := 0) (r := xi (IntKind.wrap .i64 (n + 1))) (v := xi (n + 1)) (by kernel_rfl) (congrArg (fun z => xi z) ((wrap64 (by omega)).trans (by omega)))) trivial) (by kernel_rfl)) (by kernel_rfl) ?_
            exact ⟨(n + 1), by kernel_rfl, (by have hn := hd.next (n := n) (by omega) hx8 c10; exact ⟨by omega, by omega⟩), (by have hn := hd.next (n := n) (by omega) hx8 c10; show (_ : Nat) < _; simp only []; omega)⟩
        ·
          refine Wp.regionSeq [(0, xb false, [])] [(0, .y (.one (sv NI b nil capd l))), (1, xi cl), (7, xi most), (19, xi (l.length : Int)), (20, xi hand), (21, xb false)] []
            (cast (And.intro (ob_raw (P := pg) (A := an) (vals := [xi hand, xi (l.length : Int)]) (H := []) (op := .binOp .lss 3 (.tmp 0) (.tmp 1) 3) (ty := 0) (r := xb (decide ((hand : Int) < (l.length : Int)))) (v := xb false) (by kernel_rfl) (congrArg (fun z => xb z) (decide_eq_false (by omega)))) trivial) (by kernel_rfl)) (by kernel_rfl) ?_
          refine Wp.seq ?_
          refine Wp.condF (by kernel_rfl) ?_
          refine Wp.exit ?_
          refine Eq.mpr (if_pos rfl) ?_
          refine Wp.regionSeq [] [(4, xi most), (5, xi 0)] []
            (cast trivial (by kernel_rfl)) (by kernel_rfl) ?_
          refine Wp.ret ?_
          exact ⟨Or.inr rfl, [.one (vi most), .one (vi 0)], by kernel_rfl, (by have hp : gapW l cl = (most, 0) := by { rw [gapW, c1, show inW cl = true from by unfold inW; simp; omega, gap, h5, show hand.toNat = l.length by omega]; rfl }; rw [hp]; rfl)⟩
      ·
        refine Wp.regionSeq [(1, xb false, [])] [(0, .y (.one (sv NI b nil capd l))), (1, xi cl), (17, xb true)] []
          (cast (And.intro (ob_pure (P := pg) (A := an) (H := []) (g := 29) (vals := [xi cl]) (xs0 := [.one (vi cl)]) (xs1 := [.one (vi cl)]) (res := [.one (vb false)]) (ats := #[]) (ty := 0) (v := xb false) [.tmp 0] (by kernel_rfl) (by kernel_rfl) (by kernel_rfl) (by have := fn29 cl; rw [show inW cl = false from by unfold inW; simp; omega] at this; exact this) (by kernel_rfl)) trivial) (by kernel_rfl)) (by kernel_rfl) ?_
        refine Wp.condT (by kernel_rfl) ?_
        refine Wp.regionSeq [] [(4, xi 0), (5, xi 1)] []
          (cast trivial (by kernel_rfl)) (by kernel_rfl) ?_
        refine Wp.ret ?_
        exact ⟨Or.inr rfl, [.one (vi 0), .one (vi 1)], by kernel_rfl, (by have hp : gapW l cl = (0, 1) := by { rw [gapW, c1, show inW cl = false from by unfold inW; simp; omega]; rfl }; rw [hp]; rfl)⟩
    ·
      refine Wp.regionSeq [(1, xb false, [])] [(0, .y (.one (sv NI b nil capd l))), (1, xi cl), (17, xb true)] []
        (cast (And.intro (ob_pure (P := pg) (A := an) (H := []) (g := 29) (vals := [xi cl]) (xs0 := [.one (vi cl)]) (xs1 := [.one (vi cl)]) (res := [.one (vb false)]) (ats := #[]) (ty := 0) (v := xb false) [.tmp 0] (by kernel_rfl) (by kernel_rfl) (by kernel_rfl) (by have := fn29 cl; rw [show inW cl = false from by unfold inW; simp; omega] at this; exact this) (by kernel_rfl)) trivial) (by kernel_rfl)) (by kernel_rfl) ?_
      refine Wp.condT (by kernel_rfl) ?_
      refine Wp.regionSeq [] [(4, xi 0), (5, xi 1)] []
        (cast trivial (by kernel_rfl)) (by kernel_rfl) ?_
      refine Wp.ret ?_
      exact ⟨Or.inr rfl, [.one (vi 0), .one (vi 1)], by kernel_rfl, (by have hp : gapW l cl = (0, 1) := by { rw [gapW, c1, show inW cl = false from by unfold inW; simp; omega]; rfl }; rw [hp]; rfl)⟩
  ·
    refine Wp.regionSeq [(1, xi 20, [])] [(0, .y (.one (sv NI b nil capd l))), (1, xi cl), (6, xi 20)] []
      (cast (And.intro (ob_pure (P := pg) (A := an) (H := []) (g := 13) (vals := [.y (.one (sv NI b nil capd l))]) (xs0 := [.one (sv NI b nil capd l)]) (xs1 := [.one (sv NI b nil capd l)]) (res := [.one (vi 20)]) (ats := #[]) (ty := 0) (v := xi 20) [.tmp 0] (by kernel_rfl) (by kernel_rfl) (by kernel_rfl) (by have := fn13 b nil capd l (by omega); rw [c1] at this; exact this) (by kernel_rfl)) trivial) (by kernel_rfl)) (by kernel_rfl) ?_
    refine Wp.regionSeq [] [(0, .y (.one (sv NI b nil capd l))), (1, xi cl), (6, xi 20), (13, xb true)] []
      (cast trivial (by kernel_rfl)) (by kernel_rfl) ?_
    refine Wp.condT (by kernel_rfl) ?_
    refine Wp.regionSeq [] [(4, xi 0), (5, xi 20)] []
      (cast trivial (by kernel_rfl)) (by kernel_rfl) ?_
    refine Wp.ret ?_
    exact ⟨Or.inr rfl, [.one (vi 0), .one (vi 20)], by kernel_rfl, (by have hp : gapW l cl = (0, 20) := by { rw [gapW, c1]; rfl }; rw [hp]; rfl)⟩
theorem fn26 (b nil capd : Bool) (l : List Int) (hl : (l.length : Int) ≤ 4611686018427387904) (cl : Int) : PureC pg an 26 [.one (sv NI b nil capd l), .one (vi cl)] [.one (vi (gapW l cl).1), .one (vi (gapW l cl).2)] := by
  refine Runs.of (fn := Try.f26) Try.func26 rfl (by kernel_rfl) [(0, .y (.one (sv NI b nil capd l))), (1, xi cl)] (by kernel_rfl) ?_
  refine Wp.regionSeq [] [(0, .y (.one (sv NI b nil capd l))), (1, xi cl)] []
    (cast trivial (by kernel_rfl)) (by kernel_rfl) ?_
  refine Wp.seq ?_
  rcases Bool.eq_false_or_eq_true ((okW l)) with c1 | c1
  ·
    have hkz2 := okW_len c1
    refine Wp.regionSeq [(1, xi 0, [])] [(0, .y (.one (sv NI b nil capd l))), (1, xi cl), (11, xb false)] []
      (cast (And.intro (ob_pure (P := pg) (A := an) (H := []) (g := 14) (vals := [.y (.one (sv NI b nil capd l))]) (xs0 := [.one (sv NI b nil capd l)]) (xs1 := [.one (sv NI b nil capd l)]) (res := [.one (vi 0)]) (ats := #[]) (ty := 0) (v := xi 0) [.tmp 0] (by kernel_rfl) (by kernel_rfl) (by kernel_rfl) (by have := fn14 b nil capd l (by omega); rw [c1] at this; exact this) (by kernel_rfl)) trivial) (by kernel_rfl)) (by kernel_rfl) ?_
    refine Wp.condF (by kernel_rfl) ?_
    refine Wp.skip ?_
    refine Wp.seq ?_
    by_cases c3 : (cl : Int) < 0
    ·
      refine Wp.regionSeq [(1, xb true, [])] [(0, .y (.one (sv NI b nil capd l))), (1, xi cl), (17, xb true)] []
        (cast (And.intro (ob_raw (P := pg) (A := an) (vals := [xi cl, xi 0]) (H := []) (op := .binOp .lss 3 (.tmp 0) (.tmp 1) 3) (ty := 0) (r := xb (decide ((cl : Int) < 0))) (v := xb true) (by kernel_rfl) (congrArg (fun z => xb z) (decide_eq_true (by omega)))) trivial) (by kernel_rfl)) (by kernel_rfl) ?_
      refine Wp.condT (by kernel_rfl) ?_
      refine Wp.regionSeq [] [(4, xi 0), (5, xi 1)] []
        (cast trivial (by kernel_rfl)) (by kernel_rfl) ?_
      refine Wp.ret ?_
      exact ⟨Or.inr rfl, [.one (vi 0), .one (vi 1)], by kernel_rfl, (by have hp : gapW l cl = (0, 1) := by { rw [gapW, c1, show inW cl = false from by unfold inW; simp; omega]; rfl }; rw [hp]; rfl)⟩
    ·
      by_cases c4 : (3 : Int) ≤ cl
      ·
        refine Wp.regionSeq [(1, xb false, []), (4, xb true, [])] [(0, .y (.one (sv NI b nil capd l))), (1, xi cl), (17, xb true)] []
          (cast (And.intro (ob_raw (P := pg) (A := an) (vals := [xi cl, xi 0]) (H := []) (op := .binOp .lss 3 (.tmp 0) (.tmp 1) 3) (ty := 0) (r := xb (decide ((cl : Int) < 0))) (v := xb false) (by kernel_rfl) (congrArg (fun z => xb z) (decide_eq_false (by omega)))) (And.intro (ob_raw (P := pg) (A := an) (vals := [xi cl, xi 3]) (H := []) (op := .binOp .geq 3 (.tmp 0) (.tmp 1) 3) (ty := 0) (r := xb (decide ((cl : Int) ≥ 3))) (v := xb true) (by kernel_rfl) (congrArg (fun z => xb z) (decide_eq_true (by omega)))) trivial)) (by kernel_rfl)) (by kernel_rfl) ?_
        refine Wp.condT (by kernel_rfl) ?_
        refine Wp.regionSeq [] [(4, xi 0), (5, xi 1)] []
          (cast trivial (by kernel_rfl)) (by kernel_rfl) ?_
        refine Wp.ret ?_
        exact ⟨Or.inr rfl, [.one (vi 0), .one (vi 1)], by kernel_rfl, (by have hp : gapW l cl = (0, 1) := by { rw [gapW, c1, show inW cl = false from by unfold inW; simp; omega]; rfl }; rw [hp]; rfl)⟩
      ·
        refine Wp.regionSeq [(1, xb false, []), (4, xb false, [])] [(0, .y (.one (sv NI b nil capd l))), (1, xi cl), (17, xb false)] []
          (cast (And.intro (ob_raw (P := pg) (A := an) (vals := [xi cl, xi 0]) (H := []) (op := .binOp .lss 3 (.tmp 0) (.tmp 1) 3) (ty := 0) (r := xb (decide ((cl : Int) < 0))) (v := xb false) (by kernel_rfl) (congrArg (fun z => xb z) (decide_eq_false (by omega)))) (And.intro (ob_raw (P := pg) (A := an) (vals := [xi cl, xi 3]) (H := []) (op := .binOp .geq 3 (.tmp 0) (.tmp 1) 3) (ty := 0) (r := xb (decide ((cl : Int) ≥ 3))) (v := xb false) (by kernel_rfl) (congrArg (fun z => xb z) (decide_eq_false (by omega)))) trivial)) (by kernel_rfl)) (by kernel_rfl) ?_
        refine Wp.condF (by kernel_rfl) ?_
        refine Wp.skip ?_
        refine Wp.regionSeq [] [(0, .y (.one (sv NI b nil capd l))), (1, xi cl), (6, xi 0)] []
          (cast trivial (by kernel_rfl)) (by kernel_rfl) ?_
        refine Wp.seq ?_
        refine Wp.regionSeq [] [(0, .y (.one (sv NI b nil capd l))), (1, xi cl), (6, xi 0), (7, xi 0)] []
          (cast trivial (by kernel_rfl)) (by kernel_rfl) ?_
        refine Wp.block ?_
        refine Wp.loop (T := Int × Int) (fun (t : Int × Int) => match t with | (hand, most) => (((l.length : Int) - hand).toNat : Nat)) (fun (t : Int × Int) => match t with | (hand, most) => ([(0, .y (.one (sv NI b nil capd l))), (1, xi cl), (6, xi most), (7, xi hand)] : Env)) (fun (t : Int × Int) => match t with | (hand, most) => ([] : Go.Lg.Heap))
          (fun (t : Int × Int) => match t with | (hand, most) => (0 ≤ hand ∧ hand ≤ (l.length : Int) ∧ 0 ≤ most ∧ most ≤ (l.length : Int) ∧ most = gapF l cl hand.toNat : Prop)) (0, 0) (by kernel_rfl) (by exact ⟨by omega, by omega, by omega, by omega, rfl⟩) ?_
        rintro ⟨hand, most⟩ ⟨h1, h2, h3, h4, h5⟩
        show Wp _ _ _ _ [(0, .y (.one (sv NI b nil capd l))), (1, xi cl), (6, xi most), (7, xi hand)] [] _
        refine Wp.seq ?_
        by_cases c5 : (hand : Int) < (l.length : Int)
        ·
          refine Wp.regionSeq [(3, xb true, [])] [(0, .y (.one (sv NI b nil capd l))), (1, xi cl), (6, xi most), (7, xi hand), (21, xb true)] []
            (cast (And.intro (ob_raw (P := pg) (A := an) (vals := [xi hand, xi (l.length : Int)]) (H := []) (op := .binOp .lss 3 (.tmp 0) (.tmp 1) 3) (ty := 0) (r := xb (decide ((hand : Int) < (l.length : Int)))) (v := xb true) (by kernel_rfl) (congrArg (fun z => xb z) (decide_eq_true (by omega)))) trivial) (by kernel_rfl)) (by kernel_rfl) ?_
          refine Wp.condT (by kernel_rfl) ?_
          refine Wp.skip ?_
          refine Wp.seq ?_
          refine Wp.block ?_
          refine Wp.regionSeq [] [(0, .y (.one (sv NI b nil capd l))), (1, xi cl), (6, xi most), (7, xi hand), (8, xi 1)] []
            (cast trivial (by kernel_rfl)) (by kernel_rfl) ?_
          refine Wp.seq ?_
          refine Wp.block ?_
          have hd := dist_is (h := hand) c1 (show inW cl = true from by unfold inW; simp; omega) (by omega) (by omega)
          have hd1 := hd.pos
          have hd2 := hd.le
          refine Wp.loop (T := Int) (fun (t : Int) => let n := t; ((dist l cl hand - n).toNat : Nat)) (fun (t : Int) => let n := t; ([(0, .y (.one (sv NI b nil capd l))), (1, xi cl), (6, xi most), (7, xi hand), (8, xi n)] : Env)) (fun (t : Int) => let n := t; ([] : Go.Lg.Heap))
            (fun (t : Int) => let n := t; (1 ≤ n ∧ n ≤ dist l cl hand : Prop)) 1 (by kernel_rfl) (by refine ⟨?_, ?_⟩ <;> omega) ?_
          rintro n ⟨g1, g2⟩
          show Wp _ _ _ _ [(0, .y (.one (sv NI b nil capd l))), (1, xi cl), (6, xi most), (7, xi hand), (8, xi n)] [] _
          refine Wp.seq ?_
          have hmz6 := mod_is (a := (hand + n - 1)) (b := (l.length : Int)) (by omega) (by omega)
          obtain ⟨x8, hx8⟩ : ∃ x, l[(((hand + n - 1) % (l.length : Int)) : Int).toNat]? = some x := get_of (by omega)
          by_cases c10 : (x8 : Int) = cl
          ·
            refine Wp.regionSeq [(3, xi (hand + n), []), (4, xi (hand + n - 1), []), (7, xi ((hand + n - 1) % (l.length : Int)), []), (8, .y (.one (.rd ([vi x8] ++ (l.drop ((((hand + n - 1) % (l.length : Int)) : Int).toNat + 1)).flatMap (enc NI)))), []), (11, xb false, [])] [(0, .y (.one (sv NI b nil capd l))), (1, xi cl), (6, xi most), (7, xi hand), (8, xi n), (35, xb false)] []
              (cast (And.intro (ob_raw (P := pg) (A := an) (vals := [xi hand, xi n]) (H := []) (op := .binOp .add 3 (.tmp 0) (.tmp 1) 3) (ty := 0) (r := xi (IntKind.wrap .i64 (hand + n))) (v := xi (hand + n)) (by kernel_rfl) (congrArg (fun z => xi z) ((wrap64 (by omega)).trans (by omega)))) (And.intro (ob_raw (P := pg) (A := an) (vals := [xi (hand + n), xi 1]) (H := []) (op := .binOp .sub 3 (.tmp 0) (.tmp 1) 3) (ty := 0) (r := xi (IntKind.wrap .i64 ((hand + n) - 1))) (v := xi (hand + n - 1)) (by kernel_rfl) (congrArg (fun z => xi z) ((wrap64 (by omega)).trans (by omega)))) (And.intro (ob_rem (P := pg) (A := an) (H := []) (t := 3) (u := 3) (ty := 0) (a := (hand + n - 1)) (b := (l.length : Int)) (by omega) (by omega)) (And.intro (ob_index (P := pg) (A := an) (H := []) (s := NI) (b := b) (nil := nil) (capd := capd) (t := 22) (el := 3) (i := ((hand + n - 1) % (l.length : Int))) Try.underlying22 (by kernel_rfl) (by kernel_rfl) (by omega) hx8) (And.intro (ob_raw (P := pg) (A := an) (vals := [xi x8, xi cl]) (H := []) (op := .binOp .neq 3 (.tmp 0) (.tmp 1) 3) (ty := 0) (r := xb ((x8 : Int) != cl)) (v := xb false) (by kernel_rfl) (congrArg (fun z => xb z) (bne_f (by omega)))) trivial))))) (by kernel_rfl)) (by kernel_rfl) ?_
            refine Wp.condF (by kernel_rfl) ?_
            refine Wp.exit ?_
            refine Eq.mpr (if_pos rfl) ?_
            by_cases c12 : (most : Int) < n
            ·
              refine Wp.regionSeq [(2, xb true, [])] [(0, .y (.one (sv NI b nil capd l))), (1, xi cl), (6, xi most), (7, xi hand), (8, xi n), (40, xb true)] []
                (cast (And.intro (ob_raw (P := pg) (A := an) (vals := [xi n, xi most]) (H := []) (op := .binOp .gtr 3 (.tmp 0) (.tmp 1) 3) (ty := 0) (r := xb (decide ((n : Int) > most))) (v := xb true) (by kernel_rfl) (congrArg (fun z => xb z) (decide_eq_true (by omega)))) trivial) (by kernel_rfl)) (by kernel_rfl) ?_
              refine Wp.condT (by kernel_rfl) ?_
              refine Wp.region [] [(0, .y (.one (sv NI b nil capd l))), (1, xi cl), (6, xi n), (7, xi hand)] []
                (cast trivial (by kernel_rfl)) (by kernel_rfl) ?_
              refine Wp.region [(1, xi (hand + 1), [])] [(0, .y (.one (sv NI b nil capd l))), (1, xi cl), (6, xi n), (7, xi (hand + 1))] []
                (cast (And.intro (ob_raw (P := pg) (A := an) (vals := [xi hand, xi 1]) (H := []) (op := .binOp .add 3 (.tmp 0) (.tmp 1) 3) (ty := 0) (r := xi (IntKind.wrap .i64 (hand + 1))) (v := xi (hand + 1)) (by kernel_rfl) (congrArg (fun z => xi z) ((wrap64 (by omega)).trans (by omega)))) trivial) (by kernel_rfl)) (by kernel_rfl) ?_
              exact ⟨((hand + 1), n), by kernel_rfl, (by have hg := gapF_step (l := l) (c := cl) (h := hand) (by omega) h5; have hn := hd.last (n := n) (by omega) (by omega) hx8 c10; refine ⟨by omega, by omega, by omega, by omega, ?_⟩; rw [hg]; first | (rw [if_pos (by omega)]; omega) | (rw [if_neg (by omega)])), (by show (_ : Nat) < _; simp only []; omega)⟩
            ·
              refine Wp.regionSeq [(2, xb false, [])] [(0, .y (.one (sv NI b nil capd l))), (1, xi cl), (6, xi most), (7, xi hand), (8, xi n), (40, xb false)] []
                (cast (And.intro (ob_raw (P := pg) (A := an) (vals := [xi n, xi most]) (H := []) (op := .binOp .gtr 3 (.tmp 0) (.tmp 1) 3) (ty := 0) (r := xb (decide ((n : Int) > most))) (v := xb false) (by kernel_rfl) (congrArg (fun z => xb z) (decide_eq_false (by omega)))) trivial) (by kernel_rfl)) (by kernel_rfl) ?_
              refine Wp.condF (by kernel_rfl) ?_
              refine Wp.skip ?_
              refine Wp.region [(1, xi (hand + 1), [])] [(0, .y (.one (sv NI b nil capd l))), (1, xi cl), (6, xi most), (7, xi (hand + 1))] []
                (cast (And.intro (ob_raw (P := pg) (A := an) (vals := [xi hand, xi 1]) (H := []) (op := .binOp .add 3 (.tmp 0) (.tmp 1) 3) (ty := 0) (r := xi (IntKind.wrap .i64 (hand + 1))) (v := xi (hand + 1)) (by kernel_rfl) (congrArg (fun z => xi z) ((wrap64 (by omega)).trans (by omega)))) trivial) (by kernel_rfl)) (by kernel_rfl) ?_
              exact ⟨((hand + 1), most), by kernel_rfl, (by have hg := gapF_step (l := l) (c := cl) (h := hand) (by omega) h5; have hn := hd.last (n := n) (by omega) (by omega) hx8 c10; refine ⟨by omega, by omega, by omega, by omega, ?_⟩; rw [hg]; first | (rw [if_pos (by omega)]; omega) | (rw [if_neg (by omega)])), (by show (_ : Nat) < _; simp only []; omega)⟩
          ·
            refine Wp.regionSeq [(3, xi (hand + n), []), (4, xi (hand + n - 1), []), (7, xi ((hand + n - 1) % (l.length : Int)), []), (8, .y (.one (.rd ([vi x8] ++ (l.drop ((((hand + n - 1) % (l.length : Int)) : Int).toNat + 1)).flatMap (enc NI)))), []), (11, xb true, [])] [(0, .y (.one (sv NI b nil capd l))), (1, xi cl), (6, xi most), (7, xi hand), (8, xi n), (35, xb true)] []
              (cast (And.intro (ob_raw (P := pg) (A := an) (vals := [xi hand, xi n]) (H := []) (op := .binOp .add 3 (.tmp 0) (.tmp 1) 3) (ty := 0) (r := xi (IntKind.wrap .i64 (hand + n))) (v := xi (hand + n)) (by kernel_rfl) (congrArg (fun z => xi z) ((wrap64 (by omega)).trans (by omega)))) (And.intro (ob_raw (P := pg) (A := an) (vals := [xi (hand + n), xi 1]) (H := []) (op := .binOp .sub 3 (.tmp 0) (.tmp 1) 3) (ty := 0) (r := xi (IntKind.wrap .i64 ((hand + n) - 1))) (v := xi (hand + n - 1)) (by kernel_rfl) (congrArg (fun z => xi z) ((wrap64 (by omega)).trans (by omega)))) (And.intro (ob_rem (P := pg) (A := an) (H := []) (t := 3) (u := 3) (ty := 0) (a := (hand + n - 1)) (b := (l.length : Int)) (by omega) (by omega)) (And.intro (ob_index (P := pg) (A := an) (H := []) (s := NI) (b := b) (nil := nil) (capd := capd) (t := 22) (el := 3) (i := ((hand + n - 1) % (l.length : Int))) Try.underlying22 (by kernel_rfl) (by kernel_rfl) (by omega) hx8) (And.intro (ob_raw (P := pg) (A := an) (vals := [xi x8, xi cl]) (H := []) (op := .binOp .neq 3 (.tmp 0) (.tmp 1) 3) (ty := 0) (r := xb ((x8 : Int) != cl)) (v := xb true) (by kernel_rfl) (congrArg (fun z => xb z) (bne_t (by omega)))) trivial))))) (by kernel_rfl)) (by kernel_rfl) ?_
            refine Wp.condT (by kernel_rfl) ?_
            refine Wp.skip ?_
            refine Wp.block ?_
            refine Wp.region [(1, xi (n + 1), [])] [(0, .y (.one (sv NI b nil capd l))), (1, xi cl), (6, xi most), (7, xi hand), (8, xi (n + 1))] []
              (cast (And.intro (ob_raw (P := pg) (A := an) (vals := [xi n, xi 1]) (H := []) (op := .binOp .add 3 (.tmp 0) (.tmp 1) 3) (ty := 0) (r := xi (IntKind.wrap .i64 (n + 1))) (v := xi (n + 1)) (by kernel_rfl) (congrArg (fun z => xi z) ((wrap64 (by omega)).trans (by omega)))) trivial) (by kernel_rfl)) (by kernel_rfl) ?_
            exact ⟨(n + 1), by kernel_rfl, (by have hn := hd.next (n := n) (by omega) hx8 c10; exact ⟨by omega, by omega⟩), (by have hn := hd.next (n := n) (by omega) hx8 c10; show (_ : Nat) < _; simp only []; omega)⟩
        ·
          refine Wp.regionSeq [(3, xb false, [])] [(0, .y (.one (sv NI b nil capd l))), (1, xi cl), (6, xi most), (7, xi hand), (21, xb false)] []
            (cast (And.intro (ob_raw (P := pg) (A := an) (vals := [xi hand, xi (l.length : Int)]) (H := []) (op := .binOp .lss 3 (.tmp 0) (.tmp 1) 3) (ty := 0) (r := xb (decide ((hand : Int) < (l.length : Int)))) (v := xb false) (by kernel_rfl) (congrArg (fun z => xb z) (decide_eq_false (by omega)))) trivial) (by kernel_rfl)) (by kernel_rfl) ?_
          refine Wp.condF (by kernel_rfl) ?_
          refine Wp.exit ?_
          refine Eq.mpr (if_pos rfl) ?_
          refine Wp.regionSeq [] [(4, xi most), (5, xi 0)] []
            (cast trivial (by kernel_rfl)) (by kernel_rfl) ?_
          refine Wp.ret ?_
          exact ⟨Or.inr rfl, [.one (vi most), .one (vi 0)], by kernel_rfl, (by have hp : gapW l cl = (most, 0) := by { rw [gapW, c1, show inW cl = true from by unfold inW; simp; omega, gap, h5, show hand.toNat = l.length by omega]; rfl }; rw [hp]; rfl)⟩
  ·
    refine Wp.regionSeq [(1, xi 20, [])] [(0, .y (.one (sv NI b nil capd l))), (1, xi cl), (11, xb true)] []
      (cast (And.intro (ob_pure (P := pg) (A := an) (H := []) (g := 14) (vals := [.y (.one (sv NI b nil capd l))]) (xs0 := [.one (sv NI b nil capd l)]) (xs1 := [.one (sv NI b nil capd l)]) (res := [.one (vi 20)]) (ats := #[]) (ty := 0) (v := xi 20) [.tmp 0] (by kernel_rfl) (by kernel_rfl) (by kernel_rfl) (by have := fn14 b nil capd l (by omega); rw [c1] at this; exact this) (by kernel_rfl)) trivial) (by kernel_rfl)) (by kernel_rfl) ?_
    refine Wp.condT (by kernel_rfl) ?_
    refine Wp.regionSeq [] [(4, xi 0), (5, xi 20)] []
      (cast trivial (by kernel_rfl)) (by kernel_rfl) ?_
    refine Wp.ret ?_
    exact ⟨Or.inr rfl, [.one (vi 0), .one (vi 20)], by kernel_rfl, (by have hp : gapW l cl = (0, 20) := by { rw [gapW, c1]; rfl }; rw [hp]; rfl)⟩
end Go.Proofs.Ytoieblpjklbmoaa
