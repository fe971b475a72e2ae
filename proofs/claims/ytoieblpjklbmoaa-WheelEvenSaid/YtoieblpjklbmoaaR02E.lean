/-
  Wheel: serves. (Printed by sx/r02.py.)
-/
import Derived.Test.YtoieblpjklbmoaaR02D
namespace Go.Proofs.Ytoieblpjklbmoaa
open Go.Lg
set_option linter.unusedVariables false
set_option maxRecDepth 100000
set_option linter.unusedSimpArgs false
theorem IsDist.step {l : List Int} {c h d d' : Int} (hd : IsDist l c h d) (h0 : 0 ≤ h) (h1 : h < (l.length : Int)) (hne : at_ l h ≠ c) (hd' : IsDist l c ((h + 1) % (l.length : Int)) d') : d' + 1 ≤ d := by
  have h2 : d ≠ 1 := by
    intro e
    have := hd.hit
    rw [e, show h + 1 - 1 = h by omega, Int.emod_eq_of_lt h0 h1] at this
    exact hne this
  have h3 := hd.pos
  rcases (show d' ≤ d - 1 ∨ d - 1 < d' by omega) with hh | hh
  · omega
  · exfalso
    refine hd'.miss (d - 1) (by omega) hh ?_
    rw [show (h + 1) % (l.length : Int) + (d - 1) - 1 = (h + 1) % (l.length : Int) + (d - 2) by omega, Int.emod_add_emod, show h + 1 + (d - 2) = h + d - 1 by omega]
    exact hd.hit
theorem dist_step {l : List Int} {c h x : Int} (hl : okW l = true) (hc : inW c = true) (h0 : 0 ≤ h) (h1 : h < (l.length : Int)) (hx : l[h.toNat]? = some x) (hne : ¬ x = c) : dist l c ((h + 1) % (l.length : Int)) + 1 ≤ dist l c h ∧ 1 ≤ dist l c ((h + 1) % (l.length : Int)) := by
  have hd' := dist_is (h := (h + 1) % (l.length : Int)) hl hc (Int.emod_nonneg _ (by omega)) (Int.emod_lt_of_pos _ (by omega))
  exact ⟨(dist_is hl hc h0 h1).step h0 h1 (by rw [at_of hx]; exact hne) hd', hd'.pos⟩
theorem gapF_mono {l : List Int} {c : Int} : ∀ {k j : Nat}, j < k → dist l c j ≤ gapF l c k := by
  intro k
  induction k with
  | zero => intro j h; omega
  | succ k ih =>
    intro j h
    unfold gapF
    rcases (show j < k ∨ j = k by omega) with hh | rfl
    · have := ih hh
      split <;> omega
    · split <;> omega
theorem gapF_le {l : List Int} {c : Int} (hl : okW l = true) (hc : inW c = true) : ∀ {k : Nat}, k ≤ l.length → gapF l c k ≤ (l.length : Int) := by
  intro k
  induction k with
  | zero => intro _; unfold gapF; omega
  | succ k ih =>
    intro h
    have := ih (by omega)
    have := (dist_is (h := (k : Int)) hl hc (by omega) (by omega)).le
    unfold gapF
    split <;> omega
theorem gap_is {l : List Int} {c h : Int} (hl : okW l = true) (hc : inW c = true) (h0 : 0 ≤ h) (h1 : h < (l.length : Int)) : dist l c h ≤ gap l c ∧ 1 ≤ dist l c h ∧ gap l c ≤ (l.length : Int) := by
  refine ⟨?_, (dist_is hl hc h0 h1).pos, gapF_le hl hc (Nat.le_refl _)⟩
  have := gapF_mono (l := l) (c := c) (k := l.length) (j := h.toNat) (by omega)
  rwa [show (h.toNat : Int) = h by omega] at this
theorem nx_some {l : List Int} {p x c : Int} {b0 b1 b2 : Bool} (h : okW l = true) (h0 : 0 ≤ p) (h1 : p < (l.length : Int)) (hx : l[p.toNat]? = some x) (hc : 0 ≤ c ∧ c < 3) (hb : hasW b0 b1 b2 c = true) :
    ∃ q, nx l p b0 b1 b2 = (q, (p + 1) % (l.length : Int), 0) ∧ 0 ≤ q ∧ q < 3 ∧ hasW b0 b1 b2 q = true ∧ (x = c → q = c) := by
  have hx3 := okW_elem h hx
  unfold nx
  rw [h, if_neg (by decide), if_neg (by omega), show at_ l p = x from at_of hx]
  rcases (show x = 0 ∨ x = 1 ∨ x = 2 by omega) with rfl | rfl | rfl <;> rcases (show c = 0 ∨ c = 1 ∨ c = 2 by omega) with rfl | rfl | rfl <;>
    cases b0 <;> cases b1 <;> cases b2 <;> first | (simp [hasW] at hb; done) | (refine ⟨_, rfl, ?_⟩; simp [hasW])

theorem fn5 (b nil capd : Bool) (l : List Int) (hl : (l.length : Int) ≤ 4611686018427387904) (cl hand : Int) (ob onil ocapd : Bool) (o : List Int) (hol : (o.length : Int) ≤ 4611686018427387904) : PureC pg an 5 [.one (sv NI b nil capd l), .one (vi hand), .one (vi cl), .one (sv NI ob onil ocapd o)] [.one (vb true)] := by
  refine Runs.of (fn := Try.f5) Try.func5 rfl (by kernel_rfl) [(0, .y (.one (sv NI b nil capd l))), (1, xi hand), (2, xi cl), (3, .y (.one (sv NI ob onil ocapd o)))] (by kernel_rfl) ?_
  refine Wp.regionSeq [] [(0, .y (.one (sv NI b nil capd l))), (1, xi hand), (2, xi cl), (3, .y (.one (sv NI ob onil ocapd o)))] []
    (cast trivial (by kernel_rfl)) (by kernel_rfl) ?_
  rcases Bool.eq_false_or_eq_true ((okW l)) with c1 | c1
  ·
    have hkz2 := okW_len c1
    by_cases c3 : (0 : Int) ≤ cl
    ·
      by_cases c4 : (cl : Int) < 3
      ·
        refine Wp.regionSeq [(2, .tup [.one (vi (gap l cl)), .one (vi 0)], [])] [(0, .y (.one (sv NI b nil capd l))), (1, xi hand), (2, xi cl), (3, .y (.one (sv NI ob onil ocapd o))), (9, xi (gap l cl)), (10, xi 0)] []
          (cast (And.intro (ob_pure (P := pg) (A := an) (H := []) (g := 25) (vals := [.y (.one (sv NI b nil capd l)), xi cl]) (xs0 := [.one (sv NI b nil capd l), .one (vi cl)]) (xs1 := [.one (sv NI b nil capd l), .one (vi cl)]) (res := [.one (vi (gap l cl)), .one (vi 0)]) (ats := #[]) (ty := 0) (v := .tup [.one (vi (gap l cl)), .one (vi 0)]) [.tmp 0, .tmp 1] (by kernel_rfl) (by kernel_rfl) (by kernel_rfl) (by have := fn25 b nil capd l (by omega) cl; rw [show gapW l cl = ((gap l cl), 0) from by rw [gapW, c1, show inW cl = true from by unfold inW; simp; omega]; rfl] at this; exact this) (by kernel_rfl)) trivial) (by kernel_rfl)) (by kernel_rfl) ?_
        refine Wp.seq ?_
        by_cases c5 : (hand : Int) < 0
        ·
          refine Wp.regionSeq [(4, xb true, [])] [(0, .y (.one (sv NI b nil capd l))), (1, xi hand), (2, xi cl), (3, .y (.one (sv NI ob onil ocapd o))), (9, xi (gap l cl)), (10, xi 0), (35, xb true)] []
            (cast (And.intro (ob_raw (P := pg) (A := an) (vals := [xi hand, xi 0]) (H := []) (op := .binOp .lss 3 (.tmp 0) (.tmp 1) 3) (ty := 0) (r := xb (decide ((hand : Int) < 0))) (v := xb true) (by kernel_rfl) (congrArg (fun z => xb z) (decide_eq_true (by omega)))) trivial) (by kernel_rfl)) (by kernel_rfl) ?_
          refine Wp.condT (by kernel_rfl) ?_
          refine Wp.regionSeq [(2, .tup [.one (vi (gap l cl)), .one (vi 0)], [])] [(10, xi 0), (12, xi 0)] []
            (cast (And.intro (ob_pure (P := pg) (A := an) (H := []) (g := 26) (vals := [.y (.one (sv NI b nil capd l)), xi cl]) (xs0 := [.one (sv NI b nil capd l), .one (vi cl)]) (xs1 := [.one (sv NI b nil capd l), .one (vi cl)]) (res := [.one (vi (gap l cl)), .one (vi 0)]) (ats := #[]) (ty := 0) (v := .tup [.one (vi (gap l cl)), .one (vi 0)]) [.tmp 0, .tmp 1] (by kernel_rfl) (by kernel_rfl) (by kernel_rfl) (by have := fn26 b nil capd l (by omega) cl; rw [show gapW l cl = ((gap l cl), 0) from by rw [gapW, c1, show inW cl = true from by unfold inW; simp; omega]; rfl] at this; exact this) (by kernel_rfl)) trivial) (by kernel_rfl)) (by kernel_rfl) ?_
          refine Wp.regionSeq [(4, xb true, [])] [(8, xb true)] []
            (cast (And.intro (ob_pure (P := pg) (A := an) (H := []) (g := 16) (vals := []) (xs0 := []) (xs1 := []) (res := [.one (vb true)]) (ats := #[]) (ty := 0) (v := xb true) [] (by kernel_rfl) (by kernel_rfl) (by kernel_rfl) fn16 (by kernel_rfl)) trivial) (by kernel_rfl)) (by kernel_rfl) ?_
          refine Wp.ret ?_
          exact ⟨Or.inr rfl, [.one (vb true)], by kernel_rfl, rfl⟩
        ·
          by_cases c6 : ((l.length : Int) : Int) ≤ hand
          ·
            refine Wp.regionSeq [(4, xb false, []), (10, xb true, [])] [(0, .y (.one (sv NI b nil capd l))), (1, xi hand), (2, xi cl), (3, .y (.one (sv NI ob onil ocapd o))), (9, xi (gap l cl)), (10, xi 0), (35, xb true)] []
              (cast (And.intro (ob_raw (P := pg) (A := an) (vals := [xi hand, xi 0]) (H := []) (op := .binOp .lss 3 (.tmp 0) (.tmp 1) 3) (ty := 0) (r := xb (decide ((hand : Int) < 0))) (v := xb false) (by kernel_rfl) (congrArg (fun z => xb z) (decide_eq_false (by omega)))) (And.intro (ob_raw (P := pg) (A := an) (vals := [xi hand, xi (l.length : Int)]) (H := []) (op := .binOp .geq 3 (.tmp 0) (.tmp 1) 3) (ty := 0) (r := xb (decide ((hand : Int) ≥ (l.length : Int)))) (v := xb true) (by kernel_rfl) (congrArg (fun z => xb z) (decide_eq_true (by omega)))) trivial)) (by kernel_rfl)) (by kernel_rfl) ?_
            refine Wp.condT (by kernel_rfl) ?_
            refine Wp.regionSeq [(2, .tup [.one (vi (gap l cl)), .one (vi 0)], [])] [(10, xi 0), (12, xi 0)] []
              (cast (And.intro (ob_pure (P := pg) (A := an) (H := []) (g := 26) (vals := [.y (.one (sv NI b nil capd l)), xi cl]) (xs0 := [.one (sv NI b nil capd l), .one (vi cl)]) (xs1 := [.one (sv NI b nil capd l), .one (vi cl)]) (res := [.one (vi (gap l cl)), .one (vi 0)]) (ats := #[]) (ty := 0) (v := .tup [.one (vi (gap l cl)), .one (vi 0)]) [.tmp 0, .tmp 1] (by kernel_rfl) (by kernel_rfl) (by kernel_rfl) (by have := fn26 b nil capd l (by omega) cl; rw [show gapW l cl = ((gap l cl), 0) from by rw [gapW, c1, show inW cl = true from by unfold inW; simp; omega]; rfl] at this; exact this) (by kernel_rfl)) trivial) (by kernel_rfl)) (by kernel_rfl) ?_
            refine Wp.regionSeq [(4, xb true, [])] [(8, xb true)] []
              (cast (And.intro (ob_pure (P := pg) (A := an) (H := []) (g := 16) (vals := []) (xs0 := []) (xs1 := []) (res := [.one (vb true)]) (ats := #[]) (ty := 0) (v := xb true) [] (by kernel_rfl) (by kernel_rfl) (by kernel_rfl) fn16 (by kernel_rfl)) trivial) (by kernel_rfl)) (by kernel_rfl) ?_
            refine Wp.ret ?_
            exact ⟨Or.inr rfl, [.one (vb true)], by kernel_rfl, rfl⟩
          ·
            refine Wp.regionSeq [(4, xb false, []), (10, xb false, [])] [(0, .y (.one (sv NI b nil capd l))), (1, xi hand), (2, xi cl), (3, .y (.one (sv NI ob onil ocapd o))), (9, xi (gap l cl)), (10, xi 0), (35, xb false)] []
              (cast (And.intro (ob_raw (P := pg) (A := an) (vals := [xi hand, xi 0]) (H := []) (op := .binOp .lss 3 (.tmp 0) (.tmp 1) 3) (ty := 0) (r := xb (decide ((hand : Int) < 0))) (v := xb false) (by kernel_rfl) (congrArg (fun z => xb z) (decide_eq_false (by omega)))) (And.intro (ob_raw (P := pg) (A := an) (vals := [xi hand, xi (l.length : Int)]) (H := []) (op := .binOp .geq 3 (.tmp 0) (.tmp 1) 3) (ty := 0) (r := xb (decide ((hand : Int) ≥ (l.length : Int)))) (v := xb false) (by kernel_rfl) (congrArg (fun z => xb z) (decide_eq_false (by omega)))) trivial)) (by kernel_rfl)) (by kernel_rfl) ?_
            refine Wp.condF (by kernel_rfl) ?_
            refine Wp.skip ?_
            refine Wp.seq ?_
            have hgi := gap_is (h := hand) c1 (show inW cl = true from by unfold inW; simp; omega) (by omega) (by omega)
            refine Wp.regionSeq [(1, xb false, []), (6, xb false, [])] [(0, .y (.one (sv NI b nil capd l))), (1, xi hand), (2, xi cl), (3, .y (.one (sv NI ob onil ocapd o))), (9, xi (gap l cl)), (55, xb false)] []
              (cast (And.intro (ob_raw (P := pg) (A := an) (vals := [xi (gap l cl), xi 1]) (H := []) (op := .binOp .lss 3 (.tmp 0) (.tmp 1) 3) (ty := 0) (r := xb (decide (((gap l cl) : Int) < 1))) (v := xb false) (by kernel_rfl) (congrArg (fun z => xb z) (decide_eq_false (by omega)))) (And.intro (ob_raw (P := pg) (A := an) (vals := [xi (gap l cl), xi (l.length : Int)]) (H := []) (op := .binOp .gtr 3 (.tmp 0) (.tmp 1) 3) (ty := 0) (r := xb (decide (((gap l cl) : Int) > (l.length : Int)))) (v := xb false) (by kernel_rfl) (congrArg (fun z => xb z) (decide_eq_false (by omega)))) trivial)) (by kernel_rfl)) (by kernel_rfl) ?_
            refine Wp.condF (by kernel_rfl) ?_
            refine Wp.skip ?_
            refine Wp.seq ?_
            refine Wp.regionSeq [] [(0, .y (.one (sv NI b nil capd l))), (1, xi hand), (2, xi cl), (3, .y (.one (sv NI ob onil ocapd o))), (9, xi (gap l cl)), (13, xi 0)] []
              (cast trivial (by kernel_rfl)) (by kernel_rfl) ?_
            refine Wp.block ?_
            refine Wp.loop (T := Int × Int) (fun (t : Int × Int) => match t with | (n, pos) => ((gap l cl - n).toNat : Nat)) (fun (t : Int × Int) => match t with | (n, pos) => ([(0, .y (.one (sv NI b nil capd l))), (1, xi pos), (2, xi cl), (3, .y (.one (sv NI ob onil ocapd o))), (9, xi (gap l cl)), (13, xi n)] : Env)) (fun (t : Int × Int) => match t with | (n, pos) => ([] : Go.Lg.Heap))
              (fun (t : Int × Int) => match t with | (n, pos) => (0 ≤ n ∧ n + dist l cl pos ≤ gap l cl ∧ 0 ≤ pos ∧ pos < (l.length : Int) ∧ 1 ≤ dist l cl pos : Prop)) (0, hand) (by kernel_rfl) (by exact ⟨by omega, by omega, by omega, by omega, by omega⟩) ?_
            rintro ⟨n, pos⟩ ⟨g1, g2, g3, g4, g5⟩
            show Wp _ _ _ _ [(0, .y (.one (sv NI b nil capd l))), (1, xi pos), (2, xi cl), (3, .y (.one (sv NI ob onil ocapd o))), (9, xi (gap l cl)), (13, xi n)] [] _
            refine Wp.seq ?_
            refine Wp.regionSeq [(2, xb true, [])] [(0, .y (.one (sv NI b nil capd l))), (1, xi pos), (2, xi cl), (3, .y (.one (sv NI ob onil ocapd o))), (9, xi (gap l cl)), (13, xi n), (58, xb true)] []
              (cast (And.intro (ob_raw (P := pg) (A := an) (vals := [xi n, xi (gap l cl)]) (H := []) (op := .binOp .lss 3 (.tmp 0) (.tmp 1) 3) (ty := 0) (r := xb (decide ((n : Int) < (gap l cl)))) (v := xb true) (by kernel_rfl) (congrArg (fun z => xb z) (decide_eq_true (by omega)))) trivial) (by kernel_rfl)) (by kernel_rfl) ?_
            refine Wp.condT (by kernel_rfl) ?_
            refine Wp.skip ?_
            refine Wp.seq ?_
            refine Wp.block ?_
            refine Wp.regionSeq [] [(0, .y (.one (sv NI b nil capd l))), (1, xi pos), (2, xi cl), (3, .y (.one (sv NI ob onil ocapd o))), (9, xi (gap l cl)), (13, xi n), (14, .y (.one (.ptr 0 0)))] [.obj [vb false, vb false, vb false]]
              (cast trivial (by kernel_rfl)) (by kernel_rfl) ?_
            refine Wp.cut (T := Bool × Bool × Bool × Bool) (fun (t : Bool × Bool × Bool × Bool) => match t with | (p0, p1, p2, tt) => ([(0, .y (.one (sv NI b nil capd l))), (1, xi pos), (2, xi cl), (3, .y (.one (sv NI ob onil ocapd o))), (9, xi (gap l cl)), (13, xi n), (14, .y (.one (.ptr 0 0))), (65, xb tt)] : Env)) (fun (t : Bool × Bool × Bool × Bool) => match t with | (p0, p1, p2, tt) => ([.obj [vb p0, vb p1, vb p2]] : Go.Lg.Heap)) (fun (t : Bool × Bool × Bool × Bool) => match t with | (p0, p1, p2, tt) => (True : Prop)) ?_ ?_
            ·
              by_cases c7 : (n : Int) < (o.length : Int)
              ·
                refine Wp.regionSeq [(3, xb true, [.obj [vb false, vb false, vb false]])] [(0, .y (.one (sv NI b nil capd l))), (1, xi pos), (2, xi cl), (3, .y (.one (sv NI ob onil ocapd o))), (9, xi (gap l cl)), (13, xi n), (14, .y (.one (.ptr 0 0))), (65, xb true)] [.obj [vb false, vb false, vb false]]
                  (cast (And.intro (ob_raw (P := pg) (A := an) (vals := [xi n, xi (o.length : Int)]) (H := [.obj [vb false, vb false, vb false]]) (op := .binOp .lss 3 (.tmp 0) (.tmp 1) 3) (ty := 0) (r := xb (decide ((n : Int) < (o.length : Int)))) (v := xb true) (by kernel_rfl) (congrArg (fun z => xb z) (decide_eq_true (by omega)))) trivial) (by kernel_rfl)) (by kernel_rfl) ?_
                refine Wp.condT (by kernel_rfl) ?_
                obtain ⟨x8, hx8⟩ : ∃ x, o[(n : Int).toNat]? = some x := get_of (by omega)
                obtain ⟨d9, hd9, hd9a, hd9b⟩ : ∃ d, Int.tmod (IntKind.wrap .u64 x8) 3 = d ∧ 0 ≤ d ∧ d < 3 := u_rem _ 3 (by decide)
                rcases (show d9 = 0 ∨ d9 = 1 ∨ d9 = 2 from by omega) with rfl | rfl | rfl
                ·
                  refine Wp.regionSeq [(2, .y (.one (.rd ([vi x8] ++ (o.drop ((n : Int).toNat + 1)).flatMap (enc NI)))), [.obj [vb false, vb false, vb false]]), (5, .y (.one ((.sc (.int .u64 0)))), [.obj [vb false, vb false, vb false]])] [(0, .y (.one (sv NI b nil capd l))), (1, xi pos), (2, xi cl), (3, .y (.one (sv NI ob onil ocapd o))), (9, xi (gap l cl)), (13, xi n), (14, .y (.one (.ptr 0 0))), (65, xb true)] [.obj [vb true, vb false, vb false]]
                    (cast (And.intro (ob_index (P := pg) (A := an) (H := [.obj [vb false, vb false, vb false]]) (s := NI) (b := ob) (nil := onil) (capd := ocapd) (t := 22) (el := 3) (i := n) Try.underlying22 (by kernel_rfl) (by kernel_rfl) (by omega) hx8) (And.intro (ob_raw (P := pg) (A := an) (vals := [.y (.one ((.sc (.int .u64 (IntKind.wrap .u64 x8))))), .y (.one ((.sc (.int .u64 3))))]) (H := [.obj [vb false, vb false, vb false]]) (op := .binOp .rem 41 (.tmp 0) (.tmp 1) 41) (ty := 0) (r := .y (.one (.sc (.int .u64 (Int.tmod (IntKind.wrap .u64 x8) 3))))) (v := .y (.one ((.sc (.int .u64 0))))) (by kernel_rfl) (congrArg (fun z => X.y (.one (.sc (.int .u64 z)))) hd9)) trivial)) (by kernel_rfl)) (by kernel_rfl) ?_
                  obtain ⟨d10, hd10, hd10a, hd10b⟩ : ∃ d, Int.tmod (IntKind.wrap .u64 (Int.tdiv (IntKind.wrap .u64 x8) 3)) 3 = d ∧ 0 ≤ d ∧ d < 3 := u_rem _ 3 (by decide)
                  rcases (show d10 = 0 ∨ d10 = 1 ∨ d10 = 2 from by omega) with rfl | rfl | rfl
                  ·
                    refine Wp.region [(2, .y (.one (.rd ([vi x8] ++ (o.drop ((n : Int).toNat + 1)).flatMap (enc NI)))), [.obj [vb true, vb false, vb false]]), (6, .y (.one ((.sc (.int .u64 0)))), [.obj [vb true, vb false, vb false]])] [(0, .y (.one (sv NI b nil capd l))), (1, xi pos), (2, xi cl), (3, .y (.one (sv NI ob onil ocapd o))), (9, xi (gap l cl)), (13, xi n), (14, .y (.one (.ptr 0 0))), (65, xb true)] [.obj [vb true, vb false, vb false]]
                      (cast (And.intro (ob_index (P := pg) (A := an) (H := [.obj [vb true, vb false, vb false]]) (s := NI) (b := ob) (nil := onil) (capd := ocapd) (t := 22) (el := 3) (i := n) Try.underlying22 (by kernel_rfl) (by kernel_rfl) (by omega) hx8) (And.intro (ob_raw (P := pg) (A := an) (vals := [.y (.one ((.sc (.int .u64 (IntKind.wrap .u64 (Int.tdiv (IntKind.wrap .u64 x8) 3)))))), .y (.one ((.sc (.int .u64 3))))]) (H := [.obj [vb true, vb false, vb false]]) (op := .binOp .rem 41 (.tmp 0) (.tmp 1) 41) (ty := 0) (r := .y (.one (.sc (.int .u64 (Int.tmod (IntKind.wrap .u64 (Int.tdiv (IntKind.wrap .u64 x8) 3)) 3))))) (v := .y (.one ((.sc (.int .u64 0))))) (by kernel_rfl) (congrArg (fun z => X.y (.one (.sc (.int .u64 z)))) hd10)) trivial)) (by kernel_rfl)) (by kernel_rfl) ?_
                    exact ⟨rfl, (true, false, false, true), by kernel_rfl, (by trivial)⟩
                  ·
                    refine Wp.region [(2, .y (.one (.rd ([vi x8] ++ (o.drop ((n : Int).toNat + 1)).flatMap (enc NI)))), [.obj [vb true, vb false, vb false]]), (6, .y (.one ((.sc (.int .u64 1)))), [.obj [vb true, vb false, vb false]])] [(0, .y (.one (sv NI b nil capd l))), (1, xi pos), (2, xi cl), (3, .y (.one (sv NI ob onil ocapd o))), (9, xi (gap l cl)), (13, xi n), (14, .y (.one (.ptr 0 0))), (65, xb true)] [.obj [vb true, vb true, vb false]]
                      (cast (And.intro (ob_index (P := pg) (A := an) (H := [.obj [vb true, vb false, vb false]]) (s := NI) (b := ob) (nil := onil) (capd := ocapd) (t := 22) (el := 3) (i := n) Try.underlying22 (by kernel_rfl) (by kernel_rfl) (by omega) hx8) (And.intro (ob_raw (P := pg) (A := an) (vals := [.y (.one ((.sc (.int .u64 (IntKind.wrap .u64 (Int.tdiv (IntKind.wrap .u64 x8) 3)))))), .y (.one ((.sc (.int .u64 3))))]) (H := [.obj [vb true, vb false, vb false]]) (op := .binOp .rem 41 (.tmp 0) (.tmp 1) 41) (ty := 0) (r := .y (.one (.sc (.int .u64 (Int.tmod (IntKind.wrap .u64 (Int.tdiv (IntKind.wrap .u64 x8) 3)) 3))))) (v := .y (.one ((.sc (.int .u64 1))))) (by kernel_rfl) (congrArg (fun z => X.y (.one (.sc (.int .u64 z)))) hd10)) trivial)) (by kernel_rfl)) (by kernel_rfl) ?_
                    exact ⟨rfl, (true, true, false, true), by kernel_rfl, (by trivial)⟩
                  ·
                    refine Wp.region [(2, .y (.one (.rd ([vi x8] ++ (o.drop ((n : Int).toNat + 1)).flatMap (enc NI)))), [.obj [vb true, vb false, vb false]]), (6, .y (.one ((.sc (.int .u64 2)))), [.obj [vb true, vb false, vb false]])] [(0, .y (.one (sv NI b nil capd l))), (1, xi pos), (2, xi cl), (3, .y (.one (sv NI ob onil ocapd o))), (9, xi (gap l cl)), (13, xi n), (14, .y (.one (.ptr 0 0))), (65, xb true)] [.obj [vb true, vb false, vb true]]
                      (cast (And.intro (ob_index (P := pg) (A := an) (H := [.obj [vb true, vb false, vb false]]) (s := NI) (b := ob) (nil := onil) (capd := ocapd) (t := 22) (el := 3) (i := n) Try.underlying22 (by kernel_rfl) (by kernel_rfl) (by omega) hx8) (And.intro (ob_raw (P := pg) (A := an) (vals := [.y (.one ((.sc (.int .u64 (IntKind.wrap .u64 (Int.tdiv (IntKind.wrap .u64 x8) 3)))))), .y (.one ((.sc (.int .u64 3))))]) (H := [.obj [vb true, vb false, vb false]]) (op := .binOp .rem 41 (.tmp 0) (.tmp 1) 41) (ty := 0) (r := .y (.one (.sc (.int .u64 (Int.tmod (IntKind.wrap .u64 (Int.tdiv (IntKind.wrap .u64 x8) 3)) 3))))) (v := .y (.one ((.sc (.int .u64 2))))) (by kernel_rfl) (congrArg (fun z => X.y (.one (.sc (.int .u64 z)))) hd10)) trivial)) (by kernel_rfl)) (by kernel_rfl) ?_
                    exact ⟨rfl, (true, false, true, true), by kernel_rfl, (by trivial)⟩
                ·
                  refine Wp.regionSeq [(2, .y (.one (.rd ([vi x8] ++ (o.drop ((n : Int).toNat + 1)).flatMap (enc NI)))), [.obj [vb false, vb false, vb false]]), (5, .y (.one ((.sc (.int .u64 1)))), [.obj [vb false, vb false, vb false]])] [(0, .y (.one (sv NI b nil capd l))), (1, xi pos), (2, xi cl), (3, .y (.one (sv NI ob onil ocapd o))), (9, xi (gap l cl)), (13, xi n), (14, .y (.one (.ptr 0 0))), (65, xb true)] [.obj [vb false, vb true, vb false]]
                    (cast (And.intro (ob_index (P := pg) (A := an) (H := [.obj [vb false, vb false, vb false]]) (s := NI) (b := ob) (nil := onil) (capd := ocapd) (t := 22) (el := 3) (i := n) Try.underlying22 (by kernel_rfl) (by kernel_rfl) (by omega) hx8) (And.intro (ob_raw (P := pg) (A := an) (vals := [.y (.one ((.sc (.int .u64 (IntKind.wrap .u64 x8))))), .y (.one ((.sc (.int .u64 3))))]) (H := [.obj [vb false, vb false, vb false]]) (op := .binOp .rem 41 (.tmp 0) (.tmp 1) 41) (ty := 0) (r := .y (.one (.sc (.int .u64 (Int.tmod (IntKind.wrap .u64 x8) 3))))) (v := .y (.one ((.sc (.int .u64 1))))) (by kernel_rfl) (congrArg (fun z => X.y (.one (.sc (.int .u64 z)))) hd9)) trivial)) (by kernel_rfl)) (by kernel_rfl) ?_
                  obtain ⟨d11, hd11, hd11a, hd11b⟩ : ∃ d, Int.tmod (IntKind.wrap .u64 (Int.tdiv (IntKind.wrap .u64 x8) 3)) 3 = d ∧ 0 ≤ d ∧ d < 3 := u_rem _ 3 (by decide)
                  rcases (show d11 = 0 ∨ d11 = 1 ∨ d11 = 2 from by omega) with rfl | rfl | rfl
                  ·
                    refine Wp.region [(2, .y (.one (.rd ([vi x8] ++ (o.drop ((n : Int).toNat + 1)).flatMap (enc NI)))), [.obj [vb false, vb true, vb false]]), (6, .y (.one ((.sc (.int .u64 0)))), [.obj [vb false, vb true, vb false]])] [(0, .y (.one (sv NI b nil capd l))), (1, xi pos), (2, xi cl), (3, .y (.one (sv NI ob onil ocapd o))), (9, xi (gap l cl)), (13, xi n), (14, .y (.one (.ptr 0 0))), (65, xb true)] [.obj [vb true, vb true, vb false]]
                      (cast (And.intro (ob_index (P := pg) (A := an) (H := [.obj [vb false, vb true, vb false]]) (s := NI) (b := ob) (nil := onil) (capd := ocapd) (t := 22) (el := 3) (i := n) Try.underlying22 (by kernel_rfl) (by kernel_rfl) (by omega) hx8) (And.intro (ob_raw (P := pg) (A := an) (vals := [.y (.one ((.sc (.int .u64 (IntKind.wrap .u64 (Int.tdiv (IntKind.wrap .u64 x8) 3)))))), .y (.one ((.sc (.int .u64 3))))]) (H := [.obj [vb false, vb true, vb false]]) (op := .binOp .rem 41 (.tmp 0) (.tmp 1) 41) (ty := 0) (r := .y (.one (.sc (.int .u64 (Int.tmod (IntKind.wrap .u64 (Int.tdiv (IntKind.wrap .u64 x8) 3)) 3))))) (v := .y (.one ((.sc (.int .u64 0))))) (by kernel_rfl) (congrArg (fun z => X.y (.one (.sc (.int .u64 z)))) hd11)) trivial)) (by kernel_rfl)) (by kernel_rfl) ?_
                    exact ⟨rfl, (true, true, false, true), by kernel_rfl, (by trivial)⟩
                  ·
                    refine Wp.region [(2, .y (.one (.rd ([vi x8] ++ (o.drop ((n : Int).toNat + 1)).flatMap (enc NI)))), [.obj [vb false, vb true, vb false]]), (6, .y (.one ((.sc (.int .u64 1)))), [.obj [vb false, vb true, vb false]])] [(0, .y (.one (sv NI b nil capd l))), (1, xi pos), (2, xi cl), (3, .y (.one (sv NI ob onil ocapd o))), (9, xi (gap l cl)), (13, xi n), (14, .y (.one (.ptr 0 0))), (65, xb true)] [.obj [vb false, vb true, vb false]]
                      (cast (And.intro (ob_index (P := pg) (A := an) (H := [.obj [vb false, vb true, vb false]]) (s := NI) (b := ob) (nil := onil) (capd := ocapd) (t := 22) (el := 3) (i := n) Try.underlying22 (by kernel_rfl) (by kernel_rfl) (by omega) hx8) (And.intro (ob_raw (P := pg) (A := an) (vals := [.y (.one ((.sc (.int .u64 (IntKind.wrap .u64 (Int.tdiv (IntKind.wrap .u64 x8) 3)))))), .y (.one ((.sc (.int .u64 3))))]) (H := [.obj [vb false, vb true, vb false]]) (op := .binOp .rem 41 (.tmp 0) (.tmp 1) 41) (ty := 0) (r := .y (.one (.sc (.int .u64 (Int.tmod (IntKind.wrap .u64 (Int.tdiv (IntKind.wrap .u64 x8) 3)) 3))))) (v := .y (.one ((.sc (.int .u64 1))))) (by kernel_rfl) (congrArg (fun z => X.y (.one (.sc (.int .u64 z)))) hd11)) trivial)) (by kernel_rfl)) (by kernel_rfl) ?_
                    exact ⟨rfl, (false, true, false, true), by kernel_rfl, (by trivial)⟩
                  ·
                    refine Wp.region [(2, .y (.one (.rd ([vi x8] ++ (o.drop ((n : Int).toNat + 1)).flatMap (enc NI)))), [.obj [vb false, vb true, vb false]]), (6, .y (.one ((.sc (.int .u64 2)))), [.obj [vb false, vb true, vb false]])] [(0, .y (.one (sv NI b nil capd l))), (1, xi pos), (2, xi cl), (3, .y (.one (sv NI ob onil ocapd o))), (9, xi (gap l cl)), (13, xi n), (14, .y (.one (.ptr 0 0))), (65, xb true)] [.obj [vb false, vb true, vb true]]
                      (cast (And.intro (ob_index (P := pg) (A := an) (H := [.obj [vb false, vb true, vb false]]) (s := NI) (b := ob) (nil := onil) (capd := ocapd) (t := 22) (el := 3) (i := n) Try.underlying22 (by kernel_rfl) (by kernel_rfl) (by omega) hx8) (And.intro (ob_raw (P := pg) (A := an) (vals := [.y (.one ((.sc (.int .u64 (IntKind.wrap .u64 (Int.tdiv (IntKind.wrap .u64 x8) 3)))))), .y (.one ((.sc (.int .u64 3))))]) (H := [.obj [vb false, vb true, vb false]]) (op := .binOp .rem 41 (.tmp 0) (.tmp 1) 41) (ty := 0) (r := .y (.one (.sc (.int .u64 (Int.tmod (IntKind.wrap .u64 (Int.tdiv (IntKind.wrap .u64 x8) 3)) 3))))) (v := .y (.one ((.sc (.int .u64 2))))) (by kernel_rfl) (congrArg (fun z => X.y (.one (.sc (.int .u64 z)))) hd11)) trivial)) (by kernel_rfl)) (by kernel_rfl) ?_
                    exact ⟨rfl, (false, true, true, true), by kernel_rfl, (by trivial)⟩
                ·
                  refine Wp.regionSeq [(2, .y (.one (.rd ([vi x8] ++ (o.drop ((n : Int).toNat + 1)).flatMap (enc NI)))), [.obj [vb false, vb false, vb false]]), (5, .y (.one ((.sc (.int .u64 2)))), [.obj [vb false, vb false, vb false]])] [(0, .y (.one (sv NI b nil capd l))), (1, xi pos), (2, xi cl), (3, .y (.one (sv NI ob onil ocapd o))), (9, xi (gap l cl)), (13, xi n), (14, .y (.one (.ptr 0 0))), (65, xb true)] [.obj [vb false, vb false, vb true]]
                    (cast (And.intro (ob_index (P := pg) (A := an) (H := [.obj [vb false, vb false, vb false]]) (s := NI) (b := ob) (nil := onil) (capd := ocapd) (t := 22) (el := 3) (i := n) Try.underlying22 (by kernel_rfl) (by kernel_rfl) (by omega) hx8) (And.intro (ob_raw (P := pg) (A := an) (vals := [.y (.one ((.sc (.int .u64 (IntKind.wrap .u64 x8))))), .y (.one ((.sc (.int .u64 3))))]) (H := [.obj [vb false, vb false, vb false]]) (op := .binOp .rem 41 (.tmp 0) (.tmp 1) 41) (ty := 0) (r := .y (.one (.sc (.int .u64 (Int.tmod (IntKind.wrap .u64 x8) 3))))) (v := .y (.one ((.sc (.int .u64 2))))) (by kernel_rfl) (congrArg (fun z => X.y (.one (.sc (.int .u64 z)))) hd9)) trivial)) (by kernel_rfl)) (by kernel_rfl) ?_
                  obtain ⟨d12, hd12, hd12a, hd12b⟩ : ∃ d, Int.tmod (IntKind.wrap .u64 (Int.tdiv (IntKind.wrap .u64 x8) 3)) 3 = d ∧ 0 ≤ d ∧ d < 3 := u_rem _ 3 (by decide)
                  rcases (show d12 = 0 ∨ d12 = 1 ∨ d12 = 2 from by omega) with rfl | rfl | rfl
                  ·
                    refine Wp.region [(2, .y (.one (.rd ([vi x8] ++ (o.drop ((n : Int).toNat + 1)).flatMap (enc NI)))), [.obj [vb false, vb false, vb true]]), (6, .y (.one ((.sc (.int .u64 0)))), [.obj [vb false, vb false, vb true]])] [(0, .y (.one (sv NI b nil capd l))), (1, xi pos), (2, xi cl), (3, .y (.one (sv NI ob onil ocapd o))), (9, xi (gap l cl)), (13, xi n), (14, .y (.one (.ptr 0 0))), (65, xb true)] [.obj [vb true, vb false, vb true]]
                      (cast (And.intro (ob_index (P := pg) (A := an) (H := [.obj [vb false, vb false, vb true]]) (s := NI) (b := ob) (nil := onil) (capd := ocapd) (t := 22) (el := 3) (i := n) Try.underlying22 (by kernel_rfl) (by kernel_rfl) (by omega) hx8) (And.intro (ob_raw (P := pg) (A := an) (vals := [.y (.one ((.sc (.int .u64 (IntKind.wrap .u64 (Int.tdiv (IntKind.wrap .u64 x8) 3)))))), .y (.one ((.sc (.int .u64 3))))]) (H := [.obj [vb false, vb false, vb true]]) (op := .binOp .rem 41 (.tmp 0) (.tmp 1) 41) (ty := 0) (r := .y (.one (.sc (.int .u64 (Int.tmod (IntKind.wrap .u64 (Int.tdiv (IntKind.wrap .u64 x8) 3)) 3))))) (v := .y (.one ((.sc (.int .u64 0))))) (by kernel_rfl) (congrArg (fun z => X.y (.one (.sc (.int .u64 z)))) hd12)) trivial)) (by kernel_rfl)) (by kernel_rfl) ?_
                    exact ⟨rfl, (true, false, true, true), by kernel_rfl, (by trivial)⟩
                  ·
                    refine Wp.region [(2, .y (.one (.rd ([vi x8] ++ (o.drop ((n : Int).toNat + 1)).flatMap (enc NI)))), [.obj [vb false, vb false, vb true]]), (6, .y (.one ((.sc (.int .u64 1)))), [.obj [vb false, vb false, vb true]])] [(0, .y (.one (sv NI b nil capd l))), (1, xi pos), (2, xi cl), (3, .y (.one (sv NI ob onil ocapd o))), (9, xi (gap l cl)), (13, xi n), (14, .y (.one (.ptr 0 0))), (65, xb true)] [.obj [vb false, vb true, vb true]]
                      (cast (And.intro (ob_index (P := pg) (A := an) (H := [.obj [vb false, vb false, vb true]]) (s := NI) (b := ob) (nil := onil) (capd := ocapd) (t := 22) (el := 3) (i := n) Try.underlying22 (by kernel_rfl) (by kernel_rfl) (by omega) hx8) (And.intro (ob_raw (P := pg) (A := an) (vals := [.y (.one ((.sc (.int .u64 (IntKind.wrap .u64 (Int.tdiv (IntKind.wrap .u64 x8) 3)))))), .y (.one ((.sc (.int .u64 3))))]) (H := [.obj [vb false, vb false, vb true]]) (op := .binOp .rem 41 (.tmp 0) (.tmp 1) 41) (ty := 0) (r := .y (.one (.sc (.int .u64 (Int.tmod (IntKind.wrap .u64 (Int.tdiv (IntKind.wrap .u64 x8) 3)) 3))))) (v := .y (.one ((.sc (.int .u64 1))))) (by kernel_rfl) (congrArg (fun z => X.y (.one (.sc (.int .u64 z)))) hd12)) trivial)) (by kernel_rfl)) (by kernel_rfl) ?_
                    exact ⟨rfl, (false, true, true, true), by kernel_rfl, (by trivial)⟩
                  ·
                    refine Wp.region [(2, .y (.one (.rd ([vi x8] ++ (o.drop ((n : Int).toNat + 1)).flatMap (enc NI)))), [.obj [vb false, vb false, vb true]]), (6, .y (.one ((.sc (.int .u64 2)))), [.obj [vb false, vb false, vb true]])] [(0, .y (.one (sv NI b nil capd l))), (1, xi pos), (2, xi cl), (3, .y (.one (sv NI ob onil ocapd o))), (9, xi (gap l cl)), (13, xi n), (14, .y (.one (.ptr 0 0))), (65, xb true)] [.obj [vb false, vb false, vb true]]
                      (cast (And.intro (ob_index (P := pg) (A := an) (H := [.obj [vb false, vb false, vb true]]) (s := NI) (b := ob) (nil := onil) (capd := ocapd) (t := 22) (el := 3) (i := n) Try.underlying22 (by kernel_rfl) (by kernel_rfl) (by omega) hx8) (And.intro (ob_raw (P := pg) (A := an) (vals := [.y (.one ((.sc (.int .u64 (IntKind.wrap .u64 (Int.tdiv (IntKind.wrap .u64 x8) 3)))))), .y (.one ((.sc (.int .u64 3))))]) (H := [.obj [vb false, vb false, vb true]]) (op := .binOp .rem 41 (.tmp 0) (.tmp 1) 41) (ty := 0) (r := .y (.one (.sc (.int .u64 (Int.tmod (IntKind.wrap .u64 (Int.tdiv (IntKind.wrap .u64 x8) 3)) 3))))) (v := .y (.one ((.sc (.int .u64 2))))) (by kernel_rfl) (congrArg (fun z => X.y (.one (.sc (.int .u64 z)))) hd12)) trivial)) (by kernel_rfl)) (by kernel_rfl) ?_
                    exact ⟨rfl, (false, false, true, true), by kernel_rfl, (by trivial)⟩
              ·
                refine Wp.regionSeq [(3, xb false, [.obj [vb false, vb false, vb false]])] [(0, .y (.one (sv NI b nil capd l))), (1, xi pos), (2, xi cl), (3, .y (.one (sv NI ob onil ocapd o))), (9, xi (gap l cl)), (13, xi n), (14, .y (.one (.ptr 0 0))), (65, xb false)] [.obj [vb false, vb false, vb false]]
                  (cast (And.intro (ob_raw (P := pg) (A := an) (vals := [xi n, xi (o.length : Int)]) (H := [.obj [vb false, vb false, vb false]]) (op := .binOp .lss 3 (.tmp 0) (.tmp 1) 3) (ty := 0) (r := xb (decide ((n : Int) < (o.length : Int)))) (v := xb false) (by kernel_rfl) (congrArg (fun z => xb z) (decide_eq_false (by omega)))) trivial) (by kernel_rfl)) (by kernel_rfl) ?_
                refine Wp.condF (by kernel_rfl) ?_
                refine Wp.skip ?_
                exact ⟨rfl, (false, false, false, false), by kernel_rfl, (by trivial)⟩
            ·
              rintro ⟨p0, p1, p2, tt⟩ _
              show Wp _ _ _ _ [(0, .y (.one (sv NI b nil capd l))), (1, xi pos), (2, xi cl), (3, .y (.one (sv NI ob onil ocapd o))), (9, xi (gap l cl)), (13, xi n), (14, .y (.one (.ptr 0 0))), (65, xb tt)] [.obj [vb p0, vb p1, vb p2]] _
              rcases (show cl = 0 ∨ cl = 1 ∨ cl = 2 from by omega) with rfl | rfl | rfl
              ·
                refine Wp.regionSeq [] [(0, .y (.one (sv NI b nil capd l))), (1, xi pos), (2, xi 0), (3, .y (.one (sv NI ob onil ocapd o))), (9, xi (gap l 0)), (13, xi n), (14, .y (.one (.ptr 0 0)))] [.obj [vb true, vb p1, vb p2]]
                  (cast trivial (by kernel_rfl)) (by kernel_rfl) ?_
                obtain ⟨x13, hx13⟩ : ∃ x, l[(pos : Int).toNat]? = some x := get_of (by omega)
                have hmz14 := mod_is (a := (pos + 1)) (b := (l.length : Int)) (by omega) (by omega)
                obtain ⟨q16, hq16, hq16a, hq16b, hq16h, hq16x⟩ := nx_some (c := 0) (b0 := true) (b1 := p1) (b2 := p2) c1 (by omega) (by omega) hx13 (by decide) (by simp [hasW])
                refine Wp.regionSeq [(3, .tup [.one (vi q16), .one (vi ((pos + 1) % (l.length : Int))), .one (vi 0)], [.obj [vb true, vb p1, vb p2]])] [(0, .y (.one (sv NI b nil capd l))), (1, xi pos), (2, xi 0), (3, .y (.one (sv NI ob onil ocapd o))), (9, xi (gap l 0)), (13, xi n), (14, .y (.one (.ptr 0 0))), (15, xi q16), (16, xi ((pos + 1) % (l.length : Int))), (17, xi 0)] [.obj [vb true, vb p1, vb p2]]
                  (cast (And.intro (ob_pure (P := pg) (A := an) (H := [.obj [vb true, vb p1, vb p2]]) (g := 11) (vals := [.y (.one (sv NI b nil capd l)), xi pos, .y (.agg [vb true, vb p1, vb p2])]) (xs0 := [.one (sv NI b nil capd l), .one (vi pos), .agg [vb true, vb p1, vb p2]]) (xs1 := [.one (sv NI b nil capd l), .one (vi pos), .agg [vb true, vb p1, vb p2]]) (res := [.one (vi q16), .one (vi ((pos + 1) % (l.length : Int))), .one (vi 0)]) (ats := #[]) (ty := 0) (v := .tup [.one (vi q16), .one (vi ((pos + 1) % (l.length : Int))), .one (vi 0)]) [.tmp 0, .tmp 1, .tmp 2] (by kernel_rfl) (by kernel_rfl) (by kernel_rfl) (by have := fn11 b nil capd l (by omega) pos true p1 p2; rw [hq16] at this; exact this) (by kernel_rfl)) trivial) (by kernel_rfl)) (by kernel_rfl) ?_
                refine Wp.seq ?_
                rcases (show q16 = 0 ∨ q16 = 1 ∨ q16 = 2 from by omega) with rfl | rfl | rfl
                ·
                  refine Wp.regionSeq [(19, xi (pos + 1), [.obj [vb true, vb p1, vb p2]]), (22, xi ((pos + 1) % (l.length : Int)), [.obj [vb true, vb p1, vb p2]]), (23, xb false, [.obj [vb true, vb p1, vb p2]])] [(0, .y (.one (sv NI b nil capd l))), (2, xi 0), (3, .y (.one (sv NI ob onil ocapd o))), (9, xi (gap l 0)), (13, xi n), (15, xi 0), (16, xi ((pos + 1) % (l.length : Int))), (117, xb false)] [.obj [vb true, vb p1, vb p2]]
                    (cast (And.intro (ob_raw (P := pg) (A := an) (vals := [xi pos, xi 1]) (H := [.obj [vb true, vb p1, vb p2]]) (op := .binOp .add 3 (.tmp 0) (.tmp 1) 3) (ty := 0) (r := xi (IntKind.wrap .i64 (pos + 1))) (v := xi (pos + 1)) (by kernel_rfl) (congrArg (fun z => xi z) ((wrap64 (by omega)).trans (by omega)))) (And.intro (ob_rem (P := pg) (A := an) (H := [.obj [vb true, vb p1, vb p2]]) (t := 3) (u := 3) (ty := 0) (a := (pos + 1)) (b := (l.length : Int)) (by omega) (by omega)) (And.intro (ob_raw (P := pg) (A := an) (vals := [xi ((pos + 1) % (l.length : Int)), xi ((pos + 1) % (l.length : Int))]) (H := [.obj [vb true, vb p1, vb p2]]) (op := .binOp .neq 3 (.tmp 0) (.tmp 1) 3) (ty := 0) (r := xb ((((pos + 1) % (l.length : Int)) : Int) != ((pos + 1) % (l.length : Int)))) (v := xb false) (by kernel_rfl) (congrArg (fun z => xb z) (bne_f (by omega)))) trivial))) (by kernel_rfl)) (by kernel_rfl) ?_
                  refine Wp.condF (by kernel_rfl) ?_
                  refine Wp.skip ?_
                  refine Wp.seq ?_
                  refine Wp.regionSeq [] [(0, .y (.one (sv NI b nil capd l))), (2, xi 0), (3, .y (.one (sv NI ob onil ocapd o))), (9, xi (gap l 0)), (13, xi n), (16, xi ((pos + 1) % (l.length : Int))), (120, xb true)] [.obj [vb true, vb p1, vb p2]]
                    (cast trivial (by kernel_rfl)) (by kernel_rfl) ?_
                  refine Wp.condT (by kernel_rfl) ?_
                  refine Wp.regionSeq [(0, xb true, [.obj [vb true, vb p1, vb p2]])] [(8, xb true)] [.obj [vb true, vb p1, vb p2]]
                    (cast (And.intro (ob_pure (P := pg) (A := an) (H := [.obj [vb true, vb p1, vb p2]]) (g := 16) (vals := []) (xs0 := []) (xs1 := []) (res := [.one (vb true)]) (ats := #[]) (ty := 0) (v := xb true) [] (by kernel_rfl) (by kernel_rfl) (by kernel_rfl) fn16 (by kernel_rfl)) trivial) (by kernel_rfl)) (by kernel_rfl) ?_
                  refine Wp.ret ?_
                  exact ⟨Or.inr rfl, [.one (vb true)], by kernel_rfl, rfl⟩
                ·
                  rcases Bool.eq_false_or_eq_true (p1) with c19 | c19
                  ·
                    refine Wp.regionSeq [(13, xb true, [.obj [vb true, vb p1, vb p2]]), (19, xi (pos + 1), [.obj [vb true, vb p1, vb p2]]), (22, xi ((pos + 1) % (l.length : Int)), [.obj [vb true, vb p1, vb p2]]), (23, xb false, [.obj [vb true, vb p1, vb p2]])] [(0, .y (.one (sv NI b nil capd l))), (2, xi 0), (3, .y (.one (sv NI ob onil ocapd o))), (9, xi (gap l 0)), (13, xi n), (15, xi 1), (16, xi ((pos + 1) % (l.length : Int))), (117, xb false)] [.obj [vb true, vb p1, vb p2]]
                      (cast (And.intro (ob_raw (P := pg) (A := an) (vals := [.y (.one (.ptr 0 1))]) (H := [.obj [vb true, vb p1, vb p2]]) (op := .load 4 (.tmp 0)) (ty := 0) (r := xb p1) (v := xb true) (by kernel_rfl) (congrArg (fun z => xb z) (c19))) (And.intro (ob_raw (P := pg) (A := an) (vals := [xi pos, xi 1]) (H := [.obj [vb true, vb p1, vb p2]]) (op := .binOp .add 3 (.tmp 0) (.tmp 1) 3) (ty := 0) (r := xi (IntKind.wrap .i64 (pos + 1))) (v := xi (pos + 1)) (by kernel_rfl) (congrArg (fun z => xi z) ((wrap64 (by omega)).trans (by omega)))) (And.intro (ob_rem (P := pg) (A := an) (H := [.obj [vb true, vb p1, vb p2]]) (t := 3) (u := 3) (ty := 0) (a := (pos + 1)) (b := (l.length : Int)) (by omega) (by omega)) (And.intro (ob_raw (P := pg) (A := an) (vals := [xi ((pos + 1) % (l.length : Int)), xi ((pos + 1) % (l.length : Int))]) (H := [.obj [vb true, vb p1, vb p2]]) (op := .binOp .neq 3 (.tmp 0) (.tmp 1) 3) (ty := 0) (r := xb ((((pos + 1) % (l.length : Int)) : Int) != ((pos + 1) % (l.length : Int)))) (v := xb false) (by kernel_rfl) (congrArg (fun z => xb z) (bne_f (by omega)))) trivial)))) (by kernel_rfl)) (by kernel_rfl) ?_
                    refine Wp.condF (by kernel_rfl) ?_
                    refine Wp.skip ?_
                    refine Wp.seq ?_
                    refine Wp.regionSeq [] [(0, .y (.one (sv NI b nil capd l))), (2, xi 0), (3, .y (.one (sv NI ob onil ocapd o))), (9, xi (gap l 0)), (13, xi n), (16, xi ((pos + 1) % (l.length : Int))), (120, xb false)] [.obj [vb true, vb p1, vb p2]]
                      (cast trivial (by kernel_rfl)) (by kernel_rfl) ?_
                    refine Wp.condF (by kernel_rfl) ?_
                    refine Wp.skip ?_
                    refine Wp.region [] [(0, .y (.one (sv NI b nil capd l))), (1, xi ((pos + 1) % (l.length : Int))), (2, xi 0), (3, .y (.one (sv NI ob onil ocapd o))), (9, xi (gap l 0)), (13, xi n)] [.obj [vb true, vb p1, vb p2]]
                      (cast trivial (by kernel_rfl)) (by kernel_rfl) ?_
                    refine Wp.region [(1, xi (n + 1), [.obj [vb true, vb p1, vb p2]])] [(0, .y (.one (sv NI b nil capd l))), (1, xi ((pos + 1) % (l.length : Int))), (2, xi 0), (3, .y (.one (sv NI ob onil ocapd o))), (9, xi (gap l 0)), (13, xi (n + 1))] [.obj [vb true, vb p1, vb p2]]
                      (cast (And.intro (ob_raw (P := pg) (A := an) (vals := [xi n, xi 1]) (H := [.obj [vb true, vb p1, vb p2]]) (op := .binOp .add 3 (.tmp 0) (.tmp 1) 3) (ty := 0) (r := xi (IntKind.wrap .i64 (n + 1))) (v := xi (n + 1)) (by kernel_rfl) (congrArg (fun z => xi z) ((wrap64 (by omega)).trans (by omega)))) trivial) (by kernel_rfl)) (by kernel_rfl) ?_
                    exact ⟨((n + 1), ((pos + 1) % (l.length : Int))), by kernel_rfl, (by have hst := dist_step (l := l) (c := 0) (h := pos) c1 (by decide) (by omega) (by omega) hx13 (fun e => by have := hq16x e; omega); exact ⟨by omega, by omega, by omega, by omega, by omega⟩), (by show (_ : Nat) < _; simp only []; omega)⟩
                  ·
                    exfalso; simp [hasW, c19] at hq16h
                ·
                  rcases Bool.eq_false_or_eq_true (p2) with c21 | c21
                  ·
                    refine Wp.regionSeq [(13, xb true, [.obj [vb true, vb p1, vb p2]]), (19, xi (pos + 1), [.obj [vb true, vb p1, vb p2]]), (22, xi ((pos + 1) % (l.length : Int)), [.obj [vb true, vb p1, vb p2]]), (23, xb false, [.obj [vb true, vb p1, vb p2]])] [(0, .y (.one (sv NI b nil capd l))), (2, xi 0), (3, .y (.one (sv NI ob onil ocapd o))), (9, xi (gap l 0)), (13, xi n), (15, xi 2), (16, xi ((pos + 1) % (l.length : Int))), (117, xb false)] [.obj [vb true, vb p1, vb p2]]
                      (cast (And.intro (ob_raw (P := pg) (A := an) (vals := [.y (.one (.ptr 0 2))]) (H := [.obj [vb true, vb p1, vb p2]]) (op := .load 4 (.tmp 0)) (ty := 0) (r := xb p2) (v := xb true) (by kernel_rfl) (congrArg (fun z => xb z) (c21))) (And.intro (ob_raw (P := pg) (A := an) (vals := [xi pos, xi 1]) (H := [.obj [vb true, vb p1, vb p2]]) (op := .binOp .add 3 (.tmp 0) (.tmp 1) 3) (ty := 0) (r := xi (IntKind.wrap .i64 (pos + 1))) (v := xi (pos + 1)) (by kernel_rfl) (congrArg (fun z => xi z) ((wrap64 (by omega)).trans (by omega)))) (And.intro (ob_rem (P := pg) (A := an) (H := [.obj [vb true, vb p1, vb p2]]) (t := 3) (u := 3) (ty := 0) (a := (pos + 1)) (b := (l.length : Int)) (by omega) (by omega)) (And.intro (ob_raw (P := pg) (A := an) (vals := [xi ((pos + 1) % (l.length : Int)), xi ((pos + 1) % (l.length : Int))]) (H := [.obj [vb true, vb p1, vb p2]]) (op := .binOp .neq 3 (.tmp 0) (.tmp 1) 3) (ty := 0) (r := xb ((((pos + 1) % (l.length : Int)) : Int) != ((pos + 1) % (l.length : Int)))) (v := xb false) (by kernel_rfl) (congrArg (fun z => xb z) (bne_f (by omega)))) trivial)))) (by kernel_rfl)) (by kernel_rfl) ?_
                    refine Wp.condF (by kernel_rfl) ?_
                    refine Wp.skip ?_
                    refine Wp.seq ?_
                    refine Wp.regionSeq [] [(0, .y (.one (sv NI b nil capd l))), (2, xi 0), (3, .y (.one (sv NI ob onil ocapd o))), (9, xi (gap l 0)), (13, xi n), (16, xi ((pos + 1) % (l.length : Int))), (120, xb false)] [.obj [vb true, vb p1, vb p2]]
                      (cast trivial (by kernel_rfl)) (by kernel_rfl) ?_
                    refine Wp.condF (by kernel_rfl) ?_
                    refine Wp.skip ?_
                    refine Wp.region [] [(0, .y (.one (sv NI b nil capd l))), (1, xi ((pos + 1) % (l.length : Int))), (2, xi 0), (3, .y (.one (sv NI ob onil ocapd o))), (9, xi (gap l 0)), (13, xi n)] [.obj [vb true, vb p1, vb p2]]
                      (cast trivial (by kernel_rfl)) (by kernel_rfl) ?_
                    refine Wp.region [(1, xi (n + 1), [.obj [vb true, vb p1, vb p2]])] [(0, .y (.one (sv NI b nil capd l))), (1, xi ((pos + 1) % (l.length : Int))), (2, xi 0), (3, .y (.one (sv NI ob onil ocapd o))), (9, xi (gap l 0)), (13, xi (n + 1))] [.obj [vb true, vb p1, vb p2]]
                      (cast (And.intro (ob_raw (P := pg) (A := an) (vals := [xi n, xi 1]) (H := [.obj [vb true, vb p1, vb p2]]) (op := .binOp .add 3 (.tmp 0) (.tmp 1) 3) (ty := 0) (r := xi (IntKind.wrap .i64 (n + 1))) (v := xi (n + 1)) (by kernel_rfl) (congrArg (fun z => xi z) ((wrap64 (by omega)).trans (by omega)))) trivial) (by kernel_rfl)) (by kernel_rfl) ?_
                    exact ⟨((n + 1), ((pos + 1) % (l.length : Int))), by kernel_rfl, (by have hst := dist_step (l := l) (c := 0) (h := pos) c1 (by decide) (by omega) (by omega) hx13 (fun e => by have := hq16x e; omega); exact ⟨by omega, by omega, by omega, by omega, by omega⟩), (by show (_ : Nat) < _; simp only []; omega)⟩
                  ·
                    exfalso; simp [hasW, c21] at hq16h
              ·
                refine Wp.regionSeq [] [(0, .y (.one (sv NI b nil capd l))), (1, xi pos), (2, xi 1), (3, .y (.one (sv NI ob onil ocapd o))), (9, xi (gap l 1)), (13, xi n), (14, .y (.one (.ptr 0 0)))] [.obj [vb p0, vb true, vb p2]]
                  (cast trivial (by kernel_rfl)) (by kernel_rfl) ?_
                obtain ⟨x23, hx23⟩ : ∃ x, l[(pos : Int).toNat]? = some x := get_of (by omega)
                have hmz24 := mod_is (a := (pos + 1)) (b := (l.length : Int)) (by omega) (by omega)
                obtain ⟨q26, hq26, hq26a, hq26b, hq26h, hq26x⟩ := nx_some (c := 1) (b0 := p0) (b1 := true) (b2 := p2) c1 (by omega) (by omega) hx23 (by decide) (by simp [hasW])
                refine Wp.regionSeq [(3, .tup [.one (vi q26), .one (vi ((pos + 1) % (l.length : Int))), .one (vi 0)], [.obj [vb p0, vb true, vb p2]])] [(0, .y (.one (sv NI b nil capd l))), (1, xi pos), (2, xi 1), (3, .y (.one (sv NI ob onil ocapd o))), (9, xi (gap l 1)), (13, xi n), (14, .y (.one (.ptr 0 0))), (15, xi q26), (16, xi ((pos + 1) % (l.length : Int))), (17, xi 0)] [.obj [vb p0, vb true, vb p2]]
                  (cast (And.intro (ob_pure (P := pg) (A := an) (H := [.obj [vb p0, vb true, vb p2]]) (g := 11) (vals := [.y (.one (sv NI b nil capd l)), xi pos, .y (.agg [vb p0, vb true, vb p2])]) (xs0 := [.one (sv NI b nil capd l), .one (vi pos), .agg [vb p0, vb true, vb p2]]) (xs1 := [.one (sv NI b nil capd l), .one (vi pos), .agg [vb p0, vb true, vb p2]]) (res := [.one (vi q26), .one (vi ((pos + 1) % (l.length : Int))), .one (vi 0)]) (ats := #[]) (ty := 0) (v := .tup [.one (vi q26), .one (vi ((pos + 1) % (l.length : Int))), .one (vi 0)]) [.tmp 0, .tmp 1, .tmp 2] (by kernel_rfl) (by kernel_rfl) (by kernel_rfl) (by have := fn11 b nil capd l (by omega) pos p0 true p2; rw [hq26] at this; exact this) (by kernel_rfl)) trivial) (by kernel_rfl)) (by kernel_rfl) ?_
                refine Wp.seq ?_
                rcases (show q26 = 0 ∨ q26 = 1 ∨ q26 = 2 from by omega) with rfl | rfl | rfl
                ·
                  rcases Bool.eq_false_or_eq_true (p0) with c28 | c28
                  ·
                    refine Wp.regionSeq [(13, xb true, [.obj [vb p0, vb true, vb p2]]), (19, xi (pos + 1), [.obj [vb p0, vb true, vb p2]]), (22, xi ((pos + 1) % (l.length : Int)), [.obj [vb p0, vb true, vb p2]]), (23, xb false, [.obj [vb p0, vb true, vb p2]])] [(0, .y (.one (sv NI b nil capd l))), (2, xi 1), (3, .y (.one (sv NI ob onil ocapd o))), (9, xi (gap l 1)), (13, xi n), (15, xi 0), (16, xi ((pos + 1) % (l.length : Int))), (117, xb false)] [.obj [vb p0, vb true, vb p2]]
                      (cast (And.intro (ob_raw (P := pg) (A := an) (vals := [.y (.one (.ptr 0 0))]) (H := [.obj [vb p0, vb true, vb p2]]) (op := .load 4 (.tmp 0)) (ty := 0) (r := xb p0) (v := xb true) (by kernel_rfl) (congrArg (fun z => xb z) (c28))) (And.intro (ob_raw (P := pg) (A := an) (vals := [xi pos, xi 1]) (H := [.obj [vb p0, vb true, vb p2]]) (op := .binOp .add 3 (.tmp 0) (.tmp 1) 3) (ty := 0) (r := xi (IntKind.wrap .i64 (pos + 1))) (v := xi (pos + 1)) (by kernel_rfl) (congrArg (fun z => xi z) ((wrap64 (by omega)).trans (by omega)))) (And.intro (ob_rem (P := pg) (A := an) (H := [.obj [vb p0, vb true, vb p2]]) (t := 3) (u := 3) (ty := 0) (a := (pos + 1)) (b := (l.length : Int)) (by omega) (by omega)) (And.intro (ob_raw (P := pg) (A := an) (vals := [xi ((pos + 1) % (l.length : Int)), xi ((pos + 1) % (l.length : Int))]) (H := [.obj [vb p0, vb true, vb p2]]) (op := .binOp .neq 3 (.tmp 0) (.tmp 1) 3) (ty := 0) (r := xb ((((pos + 1) % (l.length : Int)) : Int) != ((pos + 1) % (l.length : Int)))) (v := xb false) (by kernel_rfl) (congrArg (fun z => xb z) (bne_f (by omega)))) trivial)))) (by kernel_rfl)) (by kernel_rfl) ?_
                    refine Wp.condF (by kernel_rfl) ?_
                    refine Wp.skip ?_
                    refine Wp.seq ?_
                    refine Wp.regionSeq [] [(0, .y (.one (sv NI b nil capd l))), (2, xi 1), (3, .y (.one (sv NI ob onil ocapd o))), (9, xi (gap l 1)), (13, xi n), (16, xi ((pos + 1) % (l.length : Int))), (120, xb false)] [.obj [vb p0, vb true, vb p2]]
                      (cast trivial (by kernel_rfl)) (by kernel_rfl) ?_
                    refine Wp.condF (by kernel_rfl) ?_
                    refine Wp.skip ?_
                    refine Wp.region [] [(0, .y (.one (sv NI b nil capd l))), (1, xi ((pos + 1) % (l.length : Int))), (2, xi 1), (3, .y (.one (sv NI ob onil ocapd o))), (9, xi (gap l 1)), (13, xi n)] [.obj [vb p0, vb true, vb p2]]
                      (cast trivial (by kernel_rfl)) (by kernel_rfl) ?_
                    refine Wp.region [(1, xi (n + 1), [.obj [vb p0, vb true, vb p2]])] [(0, .y (.one (sv NI b nil capd l))), (1, xi ((pos + 1) % (l.length : Int))), (2, xi 1), (3, .y (.one (sv NI ob onil ocapd o))), (9, xi (gap l 1)), (13, xi (n + 1))] [.obj [vb p0, vb true, vb p2]]
                      (cast (And.intro (ob_raw (P := pg) (A := an) (vals := [xi n, xi 1]) (H := [.obj [vb p0, vb true, vb p2]]) (op := .binOp .add 3 (.tmp 0) (.tmp 1) 3) (ty := 0) (r := xi (IntKind.wrap .i64 (n + 1))) (v := xi (n + 1)) (by kernel_rfl) (congrArg (fun z => xi z) ((wrap64 (by omega)).trans (by omega)))) trivial) (by kernel_rfl)) (by kernel_rfl) ?_
                    exact ⟨((n + 1), ((pos + 1) % (l.length : Int))), by kernel_rfl, (by have hst := dist_step (l := l) (c := 1) (h := pos) c1 (by decide) (by omega) (by omega) hx23 (fun e => by have := hq26x e; omega); exact ⟨by omega, by omega, by omega, by omega, by omega⟩), (by show (_ : Nat) < _; simp only []; omega)⟩
                  ·
                    exfalso; simp [hasW, c28] at hq26h
                ·
                  refine Wp.regionSeq [(19, xi (pos + 1), [.obj [vb p0, vb true, vb p2]]), (22, xi ((pos + 1) % (l.length : Int)), [.obj [vb p0, vb true, vb p2]]), (23, xb false, [.obj [vb p0, vb true, vb p2]])] [(0, .y (.one (sv NI b nil capd l))), (2, xi 1), (3, .y (.one (sv NI ob onil ocapd o))), (9, xi (gap l 1)), (13, xi n), (15, xi 1), (16, xi ((pos + 1) % (l.length : Int))), (117, xb false)] [.obj [vb p0, vb true, vb p2]]
                    (cast (And.intro (ob_raw (P := pg) (A := an) (vals := [xi pos, xi 1]) (H := [.obj [vb p0, vb true, vb p2]]) (op := .binOp .add 3 (.tmp 0) (.tmp 1) 3) (ty := 0) (r := xi (IntKind.wrap .i64 (pos + 1))) (v := xi (pos + 1)) (by kernel_rfl) (congrArg (fun z => xi z) ((wrap64 (by omega)).trans (by omega)))) (And.intro (ob_rem (P := pg) (A := an) (H := [.obj [vb p0, vb true, vb p2]]) (t := 3) (u := 3) (ty := 0) (a := (pos + 1)) (b := (l.length : Int)) (by omega) (by omega)) (And.intro (ob_raw (P := pg) (A := an) (vals := [xi ((pos + 1) % (l.length : Int)), xi ((pos + 1) % (l.length : Int))]) (H := [.obj [vb p0, vb true, vb p2]]) (op := .binOp .neq 3 (.tmp 0) (.tmp 1) 3) (ty := 0) (r := xb ((((pos + 1) % (l.length : Int)) : Int) != ((pos + 1) % (l.length : Int)))) (v := xb false) (by kernel_rfl) (congrArg (fun z => xb z) (bne_f (by omega)))) trivial))) (by kernel_rfl)) (by kernel_rfl) ?_
                  refine Wp.condF (by kernel_rfl) ?_
                  refine Wp.skip ?_
                  refine Wp.seq ?_
                  refine Wp.regionSeq [] [(0, .y (.one (sv NI b nil capd l))), (2, xi 1), (3, .y (.one (sv NI ob onil ocapd o))), (9, xi (gap l 1)), (13, xi n), (16, xi ((pos + 1) % (l.length : Int))), (120, xb true)] [.obj [vb p0, vb true, vb p2]]
                    (cast trivial (by kernel_rfl)) (by kernel_rfl) ?_
                  refine Wp.condT (by kernel_rfl) ?_
                  refine Wp.regionSeq [(0, xb true, [.obj [vb p0, vb true, vb p2]])] [(8, xb true)] [.obj [vb p0, vb true, vb p2]]
                    (cast (And.intro (ob_pure (P := pg) (A := an) (H := [.obj [vb p0, vb true, vb p2]]) (g := 16) (vals := []) (xs0 := []) (xs1 := []) (res := [.one (vb true)]) (ats := #[]) (ty := 0) (v := xb true) [] (by kernel_rfl) (by kernel_rfl) (by kernel_rfl) fn16 (by kernel_rfl)) trivial) (by kernel_rfl)) (by kernel_rfl) ?_
                  refine Wp.ret ?_
                  exact ⟨Or.inr rfl, [.one (vb true)], by kernel_rfl, rfl⟩
                ·
                  rcases Bool.eq_false_or_eq_true (p2) with c31 | c31
                  ·
                    refine Wp.regionSeq [(13, xb true, [.obj [vb p0, vb true, vb p2]]), (19, xi (pos + 1), [.obj [vb p0, vb true, vb p2]]), (22, xi ((pos + 1) % (l.length : Int)), [.obj [vb p0, vb true, vb p2]]), (23, xb false, [.obj [vb p0, vb true, vb p2]])] [(0, .y (.one (sv NI b nil capd l))), (2, xi 1), (3, .y (.one (sv NI ob onil ocapd o))), (9, xi (gap l 1)), (13, xi n), (15, xi 2), (16, xi ((pos + 1) % (l.length : Int))), (117, xb false)] [.obj [vb p0, vb true, vb p2]]
                      (cast (And.intro (ob_raw (P := pg) (A := an) (vals := [.y (.one (.ptr 0 2))]) (H := [.obj [vb p0, vb true, vb p2]]) (op := .load 4 (.tmp 0)) (ty := 0) (r := xb p2) (v := xb true) (by kernel_rfl) (congrArg (fun z => xb z) (c31))) (And.intro (ob_raw (P := pg) (A := an) (vals := [xi pos, xi 1]) (H := [.obj [vb p0, vb true, vb p2]]) (op := .binOp .add 3 (.tmp 0) (.tmp 1) 3) (ty := 0) (r := xi (IntKind.wrap .i64 (pos + 1))) (v := xi (pos + 1)) (by kernel_rfl) (congrArg (fun z => xi z) ((wrap64 (by omega)).trans (by omega)))) (And.intro (ob_rem (P := pg) (A := an) (H := [.obj [vb p0, vb true, vb p2]]) (t := 3) (u := 3) (ty := 0) (a := (pos + 1)) (b := (l.length : Int)) (by omega) (by omega)) (And.intro (ob_raw (P := pg) (A := an) (vals := [xi ((pos + 1) % (l.length : Int)), xi ((pos + 1) % (l.length : Int))]) (H := [.obj [vb p0, vb true, vb p2]]) (op := .binOp .neq 3 (.tmp 0) (.tmp 1) 3) (ty := 0) (r := xb ((((pos + 1) % (l.length : Int)) : Int) != ((pos + 1) % (l.length : Int)))) (v := xb false) (by kernel_rfl) (congrArg (fun z => xb z) (bne_f (by omega)))) trivial)))) (by kernel_rfl)) (by kernel_rfl) ?_
                    refine Wp.condF (by kernel_rfl) ?_
                    refine Wp.skip ?_
                    refine Wp.seq ?_
                    refine Wp.regionSeq [] [(0, .y (.one (sv NI b nil capd l))), (2, xi 1), (3, .y (.one (sv NI ob onil ocapd o))), (9, xi (gap l 1)), (13, xi n), (16, xi ((pos + 1) % (l.length : Int))), (120, xb false)] [.obj [vb p0, vb true, vb p2]]
                      (cast trivial (by kernel_rfl)) (by kernel_rfl) ?_
                    refine Wp.condF (by kernel_rfl) ?_
                    refine Wp.skip ?_
                    refine Wp.region [] [(0, .y (.one (sv NI b nil capd l))), (1, xi ((pos + 1) % (l.length : Int))), (2, xi 1), (3, .y (.one (sv NI ob onil ocapd o))), (9, xi (gap l 1)), (13, xi n)] [.obj [vb p0, vb true, vb p2]]
                      (cast trivial (by kernel_rfl)) (by kernel_rfl) ?_
                    refine Wp.region [(1, xi (n + 1), [.obj [vb p0, vb true, vb p2]])] [(0, .y (.one (sv NI b nil capd l))), (1, xi ((pos + 1) % (l.length : Int))), (2, xi 1), (3, .y (.one (sv NI ob onil ocapd o))), (9, xi (gap l 1)), (13, xi (n + 1))] [.obj [vb p0, vb true, vb p2]]
                      (cast (And.intro (ob_raw (P := pg) (A := an) (vals := [xi n, xi 1]) (H := [.obj [vb p0, vb true, vb p2]]) (op := .binOp .add 3 (.tmp 0) (.tmp 1) 3) (ty := 0) (r := xi (IntKind.wrap .i64 (n + 1))) (v := xi (n + 1)) (by kernel_rfl) (congrArg (fun z => xi z) ((wrap64 (by omega)).trans (by omega)))) trivial) (by kernel_rfl)) (by kernel_rfl) ?_
                    exact ⟨((n + 1), ((pos + 1) % (l.length : Int))), by kernel_rfl, (by have hst := dist_step (l := l) (c := 1) (h := pos) c1 (by decide) (by omega) (by omega) hx23 (fun e => by have := hq26x e; omega); exact ⟨by omega, by omega, by omega, by omega, by omega⟩), (by show (_ : Nat) < _; simp only []; omega)⟩
                  ·
                    exfalso; simp [hasW, c31] at hq26h
              ·
                refine Wp.regionSeq [] [(0, .y (.one (sv NI b nil capd l))), (1, xi pos), (2, xi 2), (3, .y (.one (sv NI ob onil ocapd o))), (9, xi (gap l 2)), (13, xi n), (14, .y (.one (.ptr 0 0)))] [.obj [vb p0, vb p1, vb true]]
                  (cast trivial (by kernel_rfl)) (by kernel_rfl) ?_
                obtain ⟨x33, hx33⟩ : ∃ x, l[(pos : Int).toNat]? = some x := get_of (by omega)
                have hmz34 := mod_is (a := (pos + 1)) (b := (l.length : Int)) (by omega) (by omega)
                obtain ⟨q36, hq36, hq36a, hq36b, hq36h, hq36x⟩ := nx_some (c := 2) (b0 := p0) (b1 := p1) (b2 := true) c1 (by omega) (by omega) hx33 (by decide) (by simp [hasW])
                refine Wp.regionSeq [(3, .tup [.one (vi q36), .one (vi ((pos + 1) % (l.length : Int))), .one (vi 0)], [.obj [vb p0, vb p1, vb true]])] [(0, .y (.one (sv NI b nil capd l))), (1, xi pos), (2, xi 2), (3, .y (.one (sv NI ob onil ocapd o))), (9, xi (gap l 2)), (13, xi n), (14, .y (.one (.ptr 0 0))), (15, xi q36), (16, xi ((pos + 1) % (l.length : Int))), (17, xi 0)] [.obj [vb p0, vb p1, vb true]]
                  (cast (And.intro (ob_pure (P := pg) (A := an) (H := [.obj [vb p0, vb p1, vb true]]) (g := 11) (vals := [.y (.one (sv NI b nil capd l)), xi pos, .y (.agg [vb p0, vb p1, vb true])]) (xs0 := [.one (sv NI b nil capd l), .one (vi pos), .agg [vb p0, vb p1, vb true]]) (xs1 := [.one (sv NI b nil capd l), .one (vi pos), .agg [vb p0, vb p1, vb true]]) (res := [.one (vi q36), .one (vi ((pos + 1) % (l.length : Int))), .one (vi 0)]) (ats := #[]) (ty := 0) (v := .tup [.one (vi q36), .one (vi ((pos + 1) % (l.length : Int))), .one (vi 0)]) [.tmp 0, .tmp 1, .tmp 2] (by kernel_rfl) (by kernel_rfl) (by kernel_rfl) (by have := fn11 b nil capd l (by omega) pos p0 p1 true; rw [hq36] at this; exact this) (by kernel_rfl)) trivial) (by kernel_rfl)) (by kernel_rfl) ?_
                refine Wp.seq ?_
                rcases (show q36 = 0 ∨ q36 = 1 ∨ q36 = 2 from by omega) with rfl | rfl | rfl
                ·
                  rcases Bool.eq_false_or_eq_true (p0) with c38 | c38
                  ·
                    refine Wp.regionSeq [(13, xb true, [.obj [vb p0, vb p1, vb true]]), (19, xi (pos + 1), [.obj [vb p0, vb p1, vb true]]), (22, xi ((pos + 1) % (l.length : Int)), [.obj [vb p0, vb p1, vb true]]), (23, xb false, [.obj [vb p0, vb p1, vb true]])] [(0, .y (.one (sv NI b nil capd l))), (2, xi 2), (3, .y (.one (sv NI ob onil ocapd o))), (9, xi (gap l 2)), (13, xi n), (15, xi 0), (16, xi ((pos + 1) % (l.length : Int))), (117, xb false)] [.obj [vb p0, vb p1, vb true]]
                      (cast (And.intro (ob_raw (P := pg) (A := an) (vals := [.y (.one (.ptr 0 0))]) (H := [.obj [vb p0, vb p1, vb true]]) (op := .load 4 (.tmp 0)) (ty := 0) (r := xb p0) (v := xb true) (by kernel_rfl) (congrArg (fun z => xb z) (c38))) (And.intro (ob_raw (P := pg) (A := an) (vals := [xi pos, xi 1]) (H := [.obj [vb p0, vb p1, vb true]]) (op := .binOp .add 3 (.tmp 0) (.tmp 1) 3) (ty := 0) (r := xi (IntKind.wrap .i64 (pos + 1))) (v := xi (pos + 1)) (by kernel_rfl) (congrArg (fun z => xi z) ((wrap64 (by omega)).trans (by omega)))) (And.intro (ob_rem (P := pg) (A := an) (H := [.obj [vb p0, vb p1, vb true]]) (t := 3) (u := 3) (ty := 0) (a := (pos + 1)) (b := (l.length : Int)) (by omega) (by omega)) (And.intro (ob_raw (P := pg) (A := an) (vals := [xi ((pos + 1) % (l.length : Int)), xi ((pos + 1) % (l.length : Int))]) (H := [.obj [vb p0, vb p1, vb true]]) (op := .binOp .neq 3 (.tmp 0) (.tmp 1) 3) (ty := 0) (r := xb ((((pos + 1) % (l.length : Int)) : Int) != ((pos + 1) % (l.length : Int)))) (v := xb false) (by kernel_rfl) (congrArg (fun z => xb z) (bne_f (by omega)))) trivial)))) (by kernel_rfl)) (by kernel_rfl) ?_
                    refine Wp.condF (by kernel_rfl) ?_
                    refine Wp.skip ?_
                    refine Wp.seq ?_
                    refine Wp.regionSeq [] [(0, .y (.one (sv NI b nil capd l))), (2, xi 2), (3, .y (.one (sv NI ob onil ocapd o))), (9, xi (gap l 2)), (13, xi n), (16, xi ((pos + 1) % (l.length : Int))), (120, xb false)] [.obj [vb p0, vb p1, vb true]]
                      (cast trivial (by kernel_rfl)) (by kernel_rfl) ?_
                    refine Wp.condF (by kernel_rfl) ?_
                    refine Wp.skip ?_
                    refine Wp.region [] [(0, .y (.one (sv NI b nil capd l))), (1, xi ((pos + 1) % (l.length : Int))), (2, xi 2), (3, .y (.one (sv NI ob onil ocapd o))), (9, xi (gap l 2)), (13, xi n)] [.obj [vb p0, vb p1, vb true]]
                      (cast trivial (by kernel_rfl)) (by kernel_rfl) ?_
                    refine Wp.region [(1, xi (n + 1), [.obj [vb p0, vb p1, vb true]])] [(0, .y (.one (sv NI b nil capd l))), (1, xi ((pos + 1) % (l.length : Int))), (2, xi 2), (3, .y (.one (sv NI ob onil ocapd o))), (9, xi (gap l 2)), (13, xi (n + 1))] [.obj [vb p0, vb p1, vb true]]
                      (cast (And.intro (ob_raw (P := pg) (A := an) (vals := [xi n, xi 1]) (H := [.obj [vb p0, vb p1, vb true]]) (op := .binOp .add 3 (.tmp 0) (.tmp 1) 3) (ty := 0) (r := xi (IntKind.wrap .i64 (n + 1))) (v := xi (n + 1)) (by kernel_rfl) (congrArg (fun z => xi z) ((wrap64 (by omega)).trans (by omega)))) trivial) (by kernel_rfl)) (by kernel_rfl) ?_
                    exact ⟨((n + 1), ((pos + 1) % (l.length : Int))), by kernel_rfl, (by have hst := dist_step (l := l) (c := 2) (h := pos) c1 (by decide) (by omega) (by omega) hx33 (fun e => by have := hq36x e; omega); exact ⟨by omega, by omega, by omega, by omega, by omega⟩), (by show (_ : Nat) < _; simp only []; omega)⟩
                  ·
                    exfalso; simp [hasW, c38] at hq36h
                ·
                  rcases Bool.eq_false_or_eq_true (p1) with c40 | c40
                  ·
                    refine Wp.regionSeq [(13, xb true, [.obj [vb p0, vb p1, vb true]]), (19, xi (pos + 1), [.obj [vb p0, vb p1, vb true]]), (22, xi ((pos + 1) % (l.length : Int)), [.obj [vb p0, vb p1, vb true]]), (23, xb false, [.obj [vb p0, vb p1, vb true]])] [(0, .y (.one (sv NI b nil capd l))), (2, xi 2), (3, .y (.one (sv NI ob onil ocapd o))), (9, xi (gap l 2)), (13, xi n), (15, xi 1), (16, xi ((pos + 1) % (l.length : Int))), (117, xb false)] [.obj [vb p0, vb p1, vb true]]
                      (cast (And.intro (ob_raw (P := pg) (A := an) (vals := [.y (.one (.ptr 0 1))]) (H := [.obj [vb p0, vb p1, vb true]]) (op := .load 4 (.tmp 0)) (ty := 0) (r := xb p1) (v := xb true) (by kernel_rfl) (congrArg (fun z => xb z) (c40))) (And.intro (ob_raw (P := pg) (A := an) (vals := [xi pos, xi 1]) (H := [.obj [vb p0, vb p1, vb true]]) (op := .binOp .add 3 (.tmp 0) (.tmp 1) 3) (ty := 0) (r := xi (IntKind.wrap .i64 (pos + 1))) (v := xi (pos + 1)) (by kernel_rfl) (congrArg (fun z => xi z) ((wrap64 (by omega)).trans (by omega)))) (And.intro (ob_rem (P := pg) (A := an) (H := [.obj [vb p0, vb p1, vb true]]) (t := 3) (u := 3) (ty := 0) (a := (pos + 1)) (b := (l.length : Int)) (by omega) (by omega)) (And.intro (ob_raw (P := pg) (A := an) (vals := [xi ((pos + 1) % (l.length : Int)), xi ((pos + 1) % (l.length : Int))]) (H := [.obj [vb p0, vb p1, vb true]]) (op := .binOp .neq 3 (.tmp 0) (.tmp 1) 3) (ty := 0) (r := xb ((((pos + 1) % (l.length : Int)) : Int) != ((pos + 1) % (l.length : Int)))) (v := xb false) (by kernel_rfl) (congrArg (fun z => xb z) (bne_f (by omega)))) trivial)))) (by kernel_rfl)) (by kernel_rfl) ?_
                    refine Wp.condF (by kernel_rfl) ?_
                    refine Wp.skip ?_
                    refine Wp.seq ?_
                    refine Wp.regionSeq [] [(0, .y (.one (sv NI b nil capd l))), (2, xi 2), (3, .y (.one (sv NI ob onil ocapd o))), (9, xi (gap l 2)), (13, xi n), (16, xi ((pos + 1) % (l.length : Int))), (120, xb false)] [.obj [vb p0, vb p1, vb true]]
                      (cast trivial (by kernel_rfl)) (by kernel_rfl) ?_
                    refine Wp.condF (by kernel_rfl) ?_
                    refine Wp.skip ?_
                    refine Wp.region [] [(0, .y (.one (sv NI b nil capd l))), (1, xi ((pos + 1) % (l.length : Int))), (2, xi 2), (3, .y (.one (sv NI ob onil ocapd o))), (9, xi (gap l 2)), (13, xi n)] [.obj [vb p0, vb p1, vb true]]
                      (cast trivial (by kernel_rfl)) (by kernel_rfl) ?_
                    refine Wp.region [(1, xi (n + 1), [.obj [vb p0, vb p1, vb true]])] [(0, .y (.one (sv NI b nil capd l))), (1, xi ((pos + 1) % (l.length : Int))), (2, xi 2), (3, .y (.one (sv NI ob onil ocapd o))), (9, xi (gap l 2)), (13, xi (n + 1))] [.obj [vb p0, vb p1, vb true]]
                      (cast (And.intro (ob_raw (P := pg) (A := an) (vals := [xi n, xi 1]) (H := [.obj [vb p0, vb p1, vb true]]) (op := .binOp .add 3 (.tmp 0) (.tmp 1) 3) (ty := 0) (r := xi (IntKind.wrap .i64 (n + 1))) (v := xi (n + 1)) (by kernel_rfl) (congrArg (fun z => xi z) ((wrap64 (by omega)).trans (by omega)))) trivial) (by kernel_rfl)) (by kernel_rfl) ?_
                    exact ⟨((n + 1), ((pos + 1) % (l.length : Int))), by kernel_rfl, (by have hst := dist_step (l := l) (c := 2) (h := pos) c1 (by decide) (by omega) (by omega) hx33 (fun e => by have := hq36x e; omega); exact ⟨by omega, by omega, by omega, by omega, by omega⟩), (by show (_ : Nat) < _; simp only []; omega)⟩
                  ·
                    exfalso; simp [hasW, c40] at hq36h
                ·
                  refine Wp.regionSeq [(19, xi (pos + 1), [.obj [vb p0, vb p1, vb true]]), (22, xi ((pos + 1) % (l.length : Int)), [.obj [vb p0, vb p1, vb true]]), (23, xb false, [.obj [vb p0, vb p1, vb true]])] [(0, .y (.one (sv NI b nil capd l))), (2, xi 2), (3, .y (.one (sv NI ob onil ocapd o))), (9, xi (gap l 2)), (13, xi n), (15, xi 2), (16, xi ((pos + 1) % (l.length : Int))), (117, xb false)] [.obj [vb p0, vb p1, vb true]]
                    (cast (And.intro (ob_raw (P := pg) (A := an) (vals := [xi pos, xi 1]) (H := [.obj [vb p0, vb p1, vb true]]) (op := .binOp .add 3 (.tmp 0) (.tmp 1) 3) (ty := 0) (r := xi (IntKind.wrap .i64 (pos + 1))) (v := xi (pos + 1)) (by kernel_rfl) (congrArg (fun z => xi z) ((wrap64 (by omega)).trans (by omega)))) (And.intro (ob_rem (P := pg) (A := an) (H := [.obj [vb p0, vb p1, vb true]]) (t := 3) (u := 3) (ty := 0) (a := (pos + 1)) (b := (l.length : Int)) (by omega) (by omega)) (And.intro (ob_raw (P := pg) (A := an) (vals := [xi ((pos + 1) % (l.length : Int)), xi ((pos + 1) % (l.length : Int))]) (H := [.obj [vb p0, vb p1, vb true]]) (op := .binOp .neq 3 (.tmp 0) (.tmp 1) 3) (ty := 0) (r := xb ((((pos + 1) % (l.length : Int)) : Int) != ((pos + 1) % (l.length : Int)))) (v := xb false) (by kernel_rfl) (congrArg (fun z => xb z) (bne_f (by omega)))) trivial))) (by kernel_rfl)) (by kernel_rfl) ?_
                  refine Wp.condF (by kernel_rfl) ?_
                  refine Wp.skip ?_
                  refine Wp.seq ?_
                  refine Wp.regionSeq [] [(0, .y (.one (sv NI b nil capd l))), (2, xi 2), (3, .y (.one (sv NI ob onil ocapd o))), (9, xi (gap l 2)), (13, xi n), (16, xi ((pos + 1) % (l.length : Int))), (120, xb true)] [.obj [vb p0, vb p1, vb true]]
                    (cast trivial (by kernel_rfl)) (by kernel_rfl) ?_
                  refine Wp.condT (by kernel_rfl) ?_
                  refine Wp.regionSeq [(0, xb true, [.obj [vb p0, vb p1, vb true]])] [(8, xb true)] [.obj [vb p0, vb p1, vb true]]
                    (cast (And.intro (ob_pure (P := pg) (A := an) (H := [.obj [vb p0, vb p1, vb true]]) (g := 16) (vals := []) (xs0 := []) (xs1 := []) (res := [.one (vb true)]) (ats := #[]) (ty := 0) (v := xb true) [] (by kernel_rfl) (by kernel_rfl) (by kernel_rfl) fn16 (by kernel_rfl)) trivial) (by kernel_rfl)) (by kernel_rfl) ?_
                  refine Wp.ret ?_
                  exact ⟨Or.inr rfl, [.one (vb true)], by kernel_rfl, rfl⟩
      ·
        refine Wp.regionSeq [(2, .tup [.one (vi 0), .one (vi 1)], [])] [(0, .y (.one (sv NI b nil capd l))), (1, xi hand), (2, xi cl), (3, .y (.one (sv NI ob onil ocapd o))), (9, xi 0), (10, xi 1)] []
          (cast (And.intro (ob_pure (P := pg) (A := an) (H := []) (g := 25) (vals := [.y (.one (sv NI b nil capd l)), xi cl]) (xs0 := [.one (sv NI b nil capd l), .one (vi cl)]) (xs1 := [.one (sv NI b nil capd l), .one (vi cl)]) (res := [.one (vi 0), .one (vi 1)]) (ats := #[]) (ty := 0) (v := .tup [.one (vi 0), .one (vi 1)]) [.tmp 0, .tmp 1] (by kernel_rfl) (by kernel_rfl) (by kernel_rfl) (by have := fn25 b nil capd l (by omega) cl; rw [show gapW l cl = (0, 1) from by rw [gapW, c1, show inW cl = false from by unfold inW; simp; omega]; rfl] at this; exact this) (by kernel_rfl)) trivial) (by kernel_rfl)) (by kernel_rfl) ?_
        refine Wp.seq ?_
        refine Wp.regionSeq [] [(0, .y (.one (sv NI b nil capd l))), (1, xi hand), (2, xi cl), (3, .y (.one (sv NI ob onil ocapd o))), (9, xi 0), (10, xi 1), (35, xb true)] []
          (cast trivial (by kernel_rfl)) (by kernel_rfl) ?_
        refine Wp.condT (by kernel_rfl) ?_
        refine Wp.regionSeq [(2, .tup [.one (vi 0), .one (vi 1)], [])] [(10, xi 1), (12, xi 1)] []
          (cast (And.intro (ob_pure (P := pg) (A := an) (H := []) (g := 26) (vals := [.y (.one (sv NI b nil capd l)), xi cl]) (xs0 := [.one (sv NI b nil capd l), .one (vi cl)]) (xs1 := [.one (sv NI b nil capd l), .one (vi cl)]) (res := [.one (vi 0), .one (vi 1)]) (ats := #[]) (ty := 0) (v := .tup [.one (vi 0), .one (vi 1)]) [.tmp 0, .tmp 1] (by kernel_rfl) (by kernel_rfl) (by kernel_rfl) (by have := fn26 b nil capd l (by omega) cl; rw [show gapW l cl = (0, 1) from by rw [gapW, c1, show inW cl = false from by unfold inW; simp; omega]; rfl] at this; exact this) (by kernel_rfl)) trivial) (by kernel_rfl)) (by kernel_rfl) ?_
        refine Wp.regionSeq [(4, xb true, [])] [(8, xb true)] []
          (cast (And.intro (ob_pure (P := pg) (A := an) (H := []) (g := 16) (vals := []) (xs0 := []) (xs1 := []) (res := [.one (vb true)]) (ats := #[]) (ty := 0) (v := xb true) [] (by kernel_rfl) (by kernel_rfl) (by kernel_rfl) fn16 (by kernel_rfl)) trivial) (by kernel_rfl)) (by kernel_rfl) ?_
        refine Wp.ret ?_
        exact ⟨Or.inr rfl, [.one (vb true)], by kernel_rfl, rfl⟩
    ·
      refine Wp.regionSeq [(2, .tup [.one (vi 0), .one (vi 1)], [])] [(0, .y (.one (sv NI b nil capd l))), (1, xi hand), (2, xi cl), (3, .y (.one (sv NI ob onil ocapd o))), (9, xi 0), (10, xi 1)] []
        (cast (And.intro (ob_pure (P := pg) (A := an) (H := []) (g := 25) (vals := [.y (.one (sv NI b nil capd l)), xi cl]) (xs0 := [.one (sv NI b nil capd l), .one (vi cl)]) (xs1 := [.one (sv NI b nil capd l), .one (vi cl)]) (res := [.one (vi 0), .one (vi 1)]) (ats := #[]) (ty := 0) (v := .tup [.one (vi 0), .one (vi 1)]) [.tmp 0, .tmp 1] (by kernel_rfl) (by kernel_rfl) (by kernel_rfl) (by have := fn25 b nil capd l (by omega) cl; rw [show gapW l cl = (0, 1) from by rw [gapW, c1, show inW cl = false from by unfold inW; simp; omega]; rfl] at this; exact this) (by kernel_rfl)) trivial) (by kernel_rfl)) (by kernel_rfl) ?_
      refine Wp.seq ?_
      refine Wp.regionSeq [] [(0, .y (.one (sv NI b nil capd l))), (1, xi hand), (2, xi cl), (3, .y (.one (sv NI ob onil ocapd o))), (9, xi 0), (10, xi 1), (35, xb true)] []
        (cast trivial (by kernel_rfl)) (by kernel_rfl) ?_
      refine Wp.condT (by kernel_rfl) ?_
      refine Wp.regionSeq [(2, .tup [.one (vi 0), .one (vi 1)], [])] [(10, xi 1), (12, xi 1)] []
        (cast (And.intro (ob_pure (P := pg) (A := an) (H := []) (g := 26) (vals := [.y (.one (sv NI b nil capd l)), xi cl]) (xs0 := [.one (sv NI b nil capd l), .one (vi cl)]) (xs1 := [.one (sv NI b nil capd l), .one (vi cl)]) (res := [.one (vi 0), .one (vi 1)]) (ats := #[]) (ty := 0) (v := .tup [.one (vi 0), .one (vi 1)]) [.tmp 0, .tmp 1] (by kernel_rfl) (by kernel_rfl) (by kernel_rfl) (by have := fn26 b nil capd l (by omega) cl; rw [show gapW l cl = (0, 1) from by rw [gapW, c1, show inW cl = false from by unfold inW; simp; omega]; rfl] at this; exact this) (by kernel_rfl)) trivial) (by kernel_rfl)) (by kernel_rfl) ?_
      refine Wp.regionSeq [(4, xb true, [])] [(8, xb true)] []
        (cast (And.intro (ob_pure (P := pg) (A := an) (H := []) (g := 16) (vals := []) (xs0 := []) (xs1 := []) (res := [.one (vb true)]) (ats := #[]) (ty := 0) (v := xb true) [] (by kernel_rfl) (by kernel_rfl) (by kernel_rfl) fn16 (by kernel_rfl)) trivial) (by kernel_rfl)) (by kernel_rfl) ?_
      refine Wp.ret ?_
      exact ⟨Or.inr rfl, [.one (vb true)], by kernel_rfl, rfl⟩
  ·
    refine Wp.regionSeq [(2, .tup [.one (vi 0), .one (vi 20)], [])] [(0, .y (.one (sv NI b nil capd l))), (1, xi hand), (2, xi cl), (3, .y (.one (sv NI ob onil ocapd o))), (9, xi 0), (10, xi 20)] []
      (cast (And.intro (ob_pure (P := pg) (A := an) (H := []) (g := 25) (vals := [.y (.one (sv NI b nil capd l)), xi cl]) (xs0 := [.one (sv NI b nil capd l), .one (vi cl)]) (xs1 := [.one (sv NI b nil capd l), .one (vi cl)]) (res := [.one (vi 0), .one (vi 20)]) (ats := #[]) (ty := 0) (v := .tup [.one (vi 0), .one (vi 20)]) [.tmp 0, .tmp 1] (by kernel_rfl) (by kernel_rfl) (by kernel_rfl) (by have := fn25 b nil capd l (by omega) cl; rw [show gapW l cl = (0, 20) from by rw [gapW, c1]; rfl] at this; exact this) (by kernel_rfl)) trivial) (by kernel_rfl)) (by kernel_rfl) ?_
    refine Wp.seq ?_
    refine Wp.regionSeq [] [(0, .y (.one (sv NI b nil capd l))), (1, xi hand), (2, xi cl), (3, .y (.one (sv NI ob onil ocapd o))), (9, xi 0), (10, xi 20), (35, xb true)] []
      (cast trivial (by kernel_rfl)) (by kernel_rfl) ?_
    refine Wp.condT (by kernel_rfl) ?_
    refine Wp.regionSeq [(2, .tup [.one (vi 0), .one (vi 20)], [])] [(10, xi 20), (12, xi 20)] []
      (cast (And.intro (ob_pure (P := pg) (A := an) (H := []) (g := 26) (vals := [.y (.one (sv NI b nil capd l)), xi cl]) (xs0 := [.one (sv NI b nil capd l), .one (vi cl)]) (xs1 := [.one (sv NI b nil capd l), .one (vi cl)]) (res := [.one (vi 0), .one (vi 20)]) (ats := #[]) (ty := 0) (v := .tup [.one (vi 0), .one (vi 20)]) [.tmp 0, .tmp 1] (by kernel_rfl) (by kernel_rfl) (by kernel_rfl) (by have := fn26 b nil capd l (by omega) cl; rw [show gapW l cl = (0, 20) from by rw [gapW, c1]; rfl] at this; exact this) (by kernel_rfl)) trivial) (by kernel_rfl)) (by kernel_rfl) ?_
    refine Wp.regionSeq [(4, xb true, [])] [(8, xb true)] []
      (cast (And.intro (ob_pure (P := pg) (A := an) (H := []) (g := 16) (vals := []) (xs0 := []) (xs1 := []) (res := [.one (vb true)]) (ats := #[]) (ty := 0) (v := xb true) [] (by kernel_rfl) (by kernel_rfl) (by kernel_rfl) fn16 (by kernel_rfl)) trivial) (by kernel_rfl)) (by kernel_rfl) ?_
    refine Wp.ret ?_
    exact ⟨Or.inr rfl, [.one (vb true)], by kernel_rfl, rfl⟩
end Go.Proofs.Ytoieblpjklbmoaa
