/-
  Wheel: lent. (Printed by sx/r02.py.)
-/
import Derived.Test.YtoieblpjklbmoaaR02G
import Derived.Test.YtoieblpjklbmoaaX21
namespace Go.Proofs.Ytoieblpjklbmoaa
open Go.Lg
set_option linter.unusedVariables false
set_option maxRecDepth 100000
set_option linter.unusedSimpArgs false
def mk (k : Nat) : List Int := (List.range k).map fun (j : Nat) => -770000 - (j : Int)
theorem mk_len (k : Nat) : (mk k).length = k := by simp [mk]
theorem mk_succ {k : Int} (h : 0 ≤ k) : mk (k + 1).toNat = mk k.toNat ++ [-770000 - k] := by
  rw [show (k + 1).toNat = k.toNat + 1 by omega]
  simp only [mk, List.range_succ, List.map_append, List.map_cons, List.map_nil]
  rw [show ((k.toNat : Nat) : Int) = k by omega]
theorem mk_get {l : List Int} {k x : Int} {n : Nat} (h0 : 0 ≤ k) (h1 : k < n) (hx : (l ++ mk n)[0 + ((l.length : Int) + k).toNat]? = some x) : x = -770000 - k := by
  rw [show 0 + ((l.length : Int) + k).toNat = l.length + k.toNat by omega, List.getElem?_append_right (by omega), show l.length + k.toNat - l.length = k.toNat by omega] at hx
  simp only [mk, List.getElem?_map, List.getElem?_range (show k.toNat < n by omega), Option.map_some, Option.some.injEq] at hx
  omega
theorem alike_next {a b : List Int} {i x y : Int} (h0 : 0 ≤ i) (h : a.take i.toNat = b.take i.toNat) (hx : a[i.toNat]? = some x) (hy : b[i.toNat]? = some y) (e : x = y) : a.take (i + 1).toNat = b.take (i + 1).toNat := by
  rw [take_snoc h0 hx, take_snoc h0 hy, h, e]
theorem alike_not {a b : List Int} {i x y : Int} (hx : a[i.toNat]? = some x) (hy : b[i.toNat]? = some y) (e : ¬ x = y) : decide (a = b) = false := by
  apply decide_eq_false
  rintro rfl
  rw [hx] at hy
  exact e (Option.some.inj hy)

theorem fn20 (b nil capd b2 nil2 capd2 : Bool) (l r : List Int) (hl : (l.length : Int) ≤ 4611686018427387904) (hr : (r.length : Int) ≤ 4611686018427387904) : PureC pg an 20 [.one (sv NI b nil capd l), .one (sv NI b2 nil2 capd2 r)] [.one (vb (decide (l = r)))] := by
  refine Runs.of (fn := Try.f20) Try.func20 rfl (by kernel_rfl) [(0, .y (.one (sv NI b nil capd l))), (1, .y (.one (sv NI b2 nil2 capd2 r)))] (by kernel_rfl) ?_
  refine Wp.regionSeq [] [(0, .y (.one (sv NI b nil capd l))), (1, .y (.one (sv NI b2 nil2 capd2 r)))] []
    (cast trivial (by kernel_rfl)) (by kernel_rfl) ?_
  refine Wp.seq ?_
  by_cases c1 : ((l.length : Int) : Int) = (r.length : Int)
  ·
    refine Wp.regionSeq [(4, xb false, [])] [(0, .y (.one (sv NI b nil capd l))), (1, .y (.one (sv NI b2 nil2 capd2 r))), (10, xb false)] []
      (cast (And.intro (ob_raw (P := pg) (A := an) (vals := [xi (l.length : Int), xi (r.length : Int)]) (H := []) (op := .binOp .neq 3 (.tmp 0) (.tmp 1) 3) (ty := 0) (r := xb (((l.length : Int) : Int) != (r.length : Int))) (v := xb false) (by kernel_rfl) (congrArg (fun z => xb z) (bne_f (by omega)))) trivial) (by kernel_rfl)) (by kernel_rfl) ?_
    refine Wp.condF (by kernel_rfl) ?_
    refine Wp.skip ?_
    refine Wp.seq ?_
    refine Wp.regionSeq [] [(0, .y (.one (sv NI b nil capd l))), (1, .y (.one (sv NI b2 nil2 capd2 r))), (5, xi 0)] []
      (cast trivial (by kernel_rfl)) (by kernel_rfl) ?_
    refine Wp.block ?_
    refine Wp.loop (T := Int) (fun (t : Int) => let i := t; (((l.length : Int) - i).toNat : Nat)) (fun (t : Int) => let i := t; ([(0, .y (.one (sv NI b nil capd l))), (1, .y (.one (sv NI b2 nil2 capd2 r))), (5, xi i)] : Env)) (fun (t : Int) => let i := t; ([] : Go.Lg.Heap))
      (fun (t : Int) => let i := t; (0 ≤ i ∧ i ≤ (l.length : Int) ∧ l.take i.toNat = r.take i.toNat : Prop)) 0 (by kernel_rfl) (by exact ⟨by omega, by omega, by simp⟩) ?_
    rintro i ⟨h1, h2, h3⟩
    show Wp _ _ _ _ [(0, .y (.one (sv NI b nil capd l))), (1, .y (.one (sv NI b2 nil2 capd2 r))), (5, xi i)] [] _
    refine Wp.seq ?_
    by_cases c2 : (i : Int) < (l.length : Int)
    ·
      refine Wp.regionSeq [(3, xb true, [])] [(0, .y (.one (sv NI b nil capd l))), (1, .y (.one (sv NI b2 nil2 capd2 r))), (5, xi i), (14, xb true)] []
        (cast (And.intro (ob_raw (P := pg) (A := an) (vals := [xi i, xi (l.length : Int)]) (H := []) (op := .binOp .lss 3 (.tmp 0) (.tmp 1) 3) (ty := 0) (r := xb (decide ((i : Int) < (l.length : Int)))) (v := xb true) (by kernel_rfl) (congrArg (fun z => xb z) (decide_eq_true (by omega)))) trivial) (by kernel_rfl)) (by kernel_rfl) ?_
      refine Wp.condT (by kernel_rfl) ?_
      refine Wp.skip ?_
      refine Wp.seq ?_
      refine Wp.block ?_
      obtain ⟨x3, hx3⟩ : ∃ x, l[(i : Int).toNat]? = some x := get_of (by omega)
      obtain ⟨x4, hx4⟩ : ∃ x, r[(i : Int).toNat]? = some x := get_of (by omega)
      by_cases c5 : (x3 : Int) = x4
      ·
        refine Wp.regionSeq [(2, .y (.one (.rd ([vi x3] ++ (l.drop ((i : Int).toNat + 1)).flatMap (enc NI)))), []), (6, .y (.one (.rd ([vi x4] ++ (r.drop ((i : Int).toNat + 1)).flatMap (enc NI)))), []), (8, xb false, [])] [(0, .y (.one (sv NI b nil capd l))), (1, .y (.one (sv NI b2 nil2 capd2 r))), (5, xi i), (25, xb false)] []
          (cast (And.intro (ob_index (P := pg) (A := an) (H := []) (s := NI) (b := b) (nil := nil) (capd := capd) (t := 22) (el := 3) (i := i) Try.underlying22 (by kernel_rfl) (by kernel_rfl) (by omega) hx3) (And.intro (ob_index (P := pg) (A := an) (H := []) (s := NI) (b := b2) (nil := nil2) (capd := capd2) (t := 22) (el := 3) (i := i) Try.underlying22 (by kernel_rfl) (by kernel_rfl) (by omega) hx4) (And.intro (ob_raw (P := pg) (A := an) (vals := [xi x3, xi x4]) (H := []) (op := .binOp .neq 3 (.tmp 0) (.tmp 1) 3) (ty := 0) (r := xb ((x3 : Int) != x4)) (v := xb false) (by kernel_rfl) (congrArg (fun z => xb z) (bne_f (by omega)))) trivial))) (by kernel_rfl)) (by kernel_rfl) ?_
        refine Wp.condF (by kernel_rfl) ?_
        refine Wp.skip ?_
        refine Wp.region [(1, xi (i + 1), [])] [(0, .y (.one (sv NI b nil capd l))), (1, .y (.one (sv NI b2 nil2 capd2 r))), (5, xi (i + 1))] []
          (cast (And.intro (ob_raw (P := pg) (A := an) (vals := [xi i, xi 1]) (H := []) (op := .binOp .add 3 (.tmp 0) (.tmp 1) 3) (ty := 0) (r := xi (IntKind.wrap .i64 (i + 1))) (v := xi (i + 1)) (by kernel_rfl) (congrArg (fun z => xi z) ((wrap64 (by omega)).trans (by omega)))) trivial) (by kernel_rfl)) (by kernel_rfl) ?_
        exact ⟨(i + 1), by kernel_rfl, (by exact ⟨by omega, by omega, alike_next (by omega) h3 hx3 hx4 (by omega)⟩), (by show (_ : Nat) < _; simp only []; omega)⟩
      ·
        refine Wp.regionSeq [(2, .y (.one (.rd ([vi x3] ++ (l.drop ((i : Int).toNat + 1)).flatMap (enc NI)))), []), (6, .y (.one (.rd ([vi x4] ++ (r.drop ((i : Int).toNat + 1)).flatMap (enc NI)))), []), (8, xb true, [])] [(0, .y (.one (sv NI b nil capd l))), (1, .y (.one (sv NI b2 nil2 capd2 r))), (5, xi i), (25, xb true)] []
          (cast (And.intro (ob_index (P := pg) (A := an) (H := []) (s := NI) (b := b) (nil := nil) (capd := capd) (t := 22) (el := 3) (i := i) Try.underlying22 (by kernel_rfl) (by kernel_rfl) (by omega) hx3) (And.intro (ob_index (P := pg) (A := an) (H := []) (s := NI) (b := b2) (nil := nil2) (capd := capd2) (t := 22) (el := 3) (i := i) Try.underlying22 (by kernel_rfl) (by kernel_rfl) (by omega) hx4) (And.intro (ob_raw (P := pg) (A := an) (vals := [xi x3, xi x4]) (H := []) (op := .binOp .neq 3 (.tmp 0) (.tmp 1) 3) (ty := 0) (r := xb ((x3 : Int) != x4)) (v := xb true) (by kernel_rfl) (congrArg (fun z => xb z) (bne_t (by omega)))) trivial))) (by kernel_rfl)) (by kernel_rfl) ?_
        refine Wp.condT (by kernel_rfl) ?_
        refine Wp.regionSeq [] [(4, xb false)] []
          (cast trivial (by kernel_rfl)) (by kernel_rfl) ?_
        refine Wp.ret ?_
        exact ⟨Or.inr rfl, [.one (vb false)], by kernel_rfl, (congrArg (fun z => some [Y.one (vb z)]) (show false = decide (l = r) from (alike_not hx3 hx4 (by omega)).symm))⟩
    ·
      refine Wp.regionSeq [(3, xb false, [])] [(0, .y (.one (sv NI b nil capd l))), (1, .y (.one (sv NI b2 nil2 capd2 r))), (5, xi i), (14, xb false)] []
        (cast (And.intro (ob_raw (P := pg) (A := an) (vals := [xi i, xi (l.length : Int)]) (H := []) (op := .binOp .lss 3 (.tmp 0) (.tmp 1) 3) (ty := 0) (r := xb (decide ((i : Int) < (l.length : Int)))) (v := xb false) (by kernel_rfl) (congrArg (fun z => xb z) (decide_eq_false (by omega)))) trivial) (by kernel_rfl)) (by kernel_rfl) ?_
      refine Wp.condF (by kernel_rfl) ?_
      refine Wp.exit ?_
      refine Eq.mpr (if_pos rfl) ?_
      refine Wp.regionSeq [] [(4, xb true)] []
        (cast trivial (by kernel_rfl)) (by kernel_rfl) ?_
      refine Wp.ret ?_
      exact ⟨Or.inr rfl, [.one (vb true)], by kernel_rfl, (congrArg (fun z => some [Y.one (vb z)]) (show true = decide (l = r) from by rw [decide_eq_true]; rw [show i.toNat = l.length by omega, List.take_length] at h3; rw [h3]; exact (List.take_of_length_le (by omega))))⟩
  ·
    refine Wp.regionSeq [(4, xb true, [])] [(0, .y (.one (sv NI b nil capd l))), (1, .y (.one (sv NI b2 nil2 capd2 r))), (10, xb true)] []
      (cast (And.intro (ob_raw (P := pg) (A := an) (vals := [xi (l.length : Int), xi (r.length : Int)]) (H := []) (op := .binOp .neq 3 (.tmp 0) (.tmp 1) 3) (ty := 0) (r := xb (((l.length : Int) : Int) != (r.length : Int))) (v := xb true) (by kernel_rfl) (congrArg (fun z => xb z) (bne_t (by omega)))) trivial) (by kernel_rfl)) (by kernel_rfl) ?_
    refine Wp.condT (by kernel_rfl) ?_
    refine Wp.regionSeq [] [(4, xb false)] []
      (cast trivial (by kernel_rfl)) (by kernel_rfl) ?_
    refine Wp.ret ?_
    exact ⟨Or.inr rfl, [.one (vb false)], by kernel_rfl, (congrArg (fun z => some [Y.one (vb z)]) (show false = decide (l = r) from by symm; apply decide_eq_false; rintro rfl; omega))⟩
theorem fn10 (o : O) (b nil capd : Bool) (l : List Int) (hl : (l.length : Int) ≤ 17592186043904) : Runs pg an 10 [.one (sv NI b nil capd l)] [o] [.one (.row 1 (l ++ mk 70).length 0 ((l.length : Int).toNat) false)] [o, tr NI true (l ++ mk 70)] := by
  refine runs_of ?_
  refine Runs.of (fn := Try.f10) Try.func10 rfl (by kernel_rfl) [(0, .y (.one (sv NI b nil capd l)))] (by kernel_rfl) ?_
  refine Wp.regionSeq [] [(0, .y (.one (sv NI b nil capd l)))] [o]
    (cast trivial (by kernel_rfl)) (by kernel_rfl) ?_
  refine Wp.regionSeq [(2, xi ((l.length : Int) + 70), [o]), (3, .y (.one (.row 1 ([] : List Int).length 0 (([] : List Int).length) false)), [o, tr NI true ([] : List Int)])] [(0, .y (.one (sv NI b nil capd l))), (3, .y (.one (.row 1 ([] : List Int).length 0 (([] : List Int).length) false)))] [o, tr NI true ([] : List Int)]
    (cast (And.intro (ob_raw (P := pg) (A := an) (vals := [xi (l.length : Int), xi 70]) (H := [o]) (op := .binOp .add 3 (.tmp 0) (.tmp 1) 3) (ty := 0) (r := xi (IntKind.wrap .i64 ((l.length : Int) + 70))) (v := xi ((l.length : Int) + 70)) (by kernel_rfl) (congrArg (fun z => xi z) ((wrap64 (by omega)).trans (by omega)))) (And.intro (ob_make0 (P := pg) (A := an) (H := [o]) (t := 22) (el := 3) (ty := 0) (sz := 1) (by_ := 8) (z := [vi 0]) (c := ((l.length : Int) + 70)) (by kernel_rfl) (by kernel_rfl) (by kernel_rfl) (by kernel_rfl) (by kernel_rfl) (by omega) (by omega) (by omega)) trivial)) (by kernel_rfl)) (by kernel_rfl) ?_
  refine Wp.regionSeq [(2, .y (.one (.row 1 (([] : List Int) ++ l).length 0 ((([] : List Int) ++ l).length) false)), [o, tr NI true (([] : List Int) ++ l)])] [(0, .y (.one (sv NI b nil capd l))), (3, .y (.one (.row 1 (([] : List Int) ++ l).length 0 ((([] : List Int) ++ l).length) false)))] [o, tr NI true (([] : List Int) ++ l)]
    (cast (And.intro (ob_append (P := pg) (A := an) (H := [o, tr NI true ([] : List Int)]) (s := NI) (t := 22) (u := 22) (el := 3) (by_ := 8) (z := [vi 0]) (ty := 0) (pu := true) (b := b) (nil := nil) (capd := capd) (id := 1) (l := ([] : List Int)) (m := l) (by kernel_rfl) (by kernel_rfl) (by kernel_rfl) (by kernel_rfl) (by kernel_rfl) (by kernel_rfl) (by kernel_rfl) (by have e1 : (([] : List Int).length : Int) = 0 := by { first | omega | (simp; done) | (simp; omega) }; have e2 : ((l : List Int).length : Int) = (l.length : Int) := by { first | omega | (simp; done) | (simp; omega) }; omega) (by have e1 : (([] : List Int).length : Int) = 0 := by { first | omega | (simp; done) | (simp; omega) }; have e2 : ((l : List Int).length : Int) = (l.length : Int) := by { first | omega | (simp; done) | (simp; omega) }; omega)) trivial) (by kernel_rfl)) (by kernel_rfl) ?_
  refine Wp.seq ?_
  refine Wp.regionSeq [] [(0, .y (.one (sv NI b nil capd l))), (3, .y (.one (.row 1 (([] : List Int) ++ l).length 0 ((([] : List Int) ++ l).length) false))), (4, xi 0)] [o, tr NI true (([] : List Int) ++ l)]
    (cast trivial (by kernel_rfl)) (by kernel_rfl) ?_
  refine Wp.block ?_
  refine Wp.loop (T := Int × List Int) (fun (t : Int × List Int) => match t with | (kx, ml) => ((70 - kx).toNat : Nat)) (fun (t : Int × List Int) => match t with | (kx, ml) => ([(0, .y (.one (sv NI b nil capd l))), (3, .y (.one (.row 1 ml.length 0 ml.length false))), (4, xi kx)] : Env)) (fun (t : Int × List Int) => match t with | (kx, ml) => ([o, tr NI true ml] : Go.Lg.Heap))
    (fun (t : Int × List Int) => match t with | (kx, ml) => (0 ≤ kx ∧ kx ≤ 70 ∧ ml = l ++ mk kx.toNat ∧ (ml.length : Int) = (l.length : Int) + kx : Prop)) (0, (([] : List Int) ++ l)) (by kernel_rfl) (by exact ⟨by omega, by omega, by simp [mk], by simp⟩) ?_
  rintro ⟨kx, ml⟩ ⟨h1, h2, h3, h4⟩
  show Wp _ _ _ _ [(0, .y (.one (sv NI b nil capd l))), (3, .y (.one (.row 1 ml.length 0 ml.length false))), (4, xi kx)] [o, tr NI true ml] _
  refine Wp.seq ?_
  by_cases c1 : (kx : Int) < 70
  ·
    refine Wp.regionSeq [(1, xb true, [o, tr NI true ml])] [(0, .y (.one (sv NI b nil capd l))), (3, .y (.one (.row 1 ml.length 0 ml.length false))), (4, xi kx), (13, xb true)] [o, tr NI true ml]
      (cast (And.intro (ob_raw (P := pg) (A := an) (vals := [xi kx, xi 70]) (H := [o, tr NI true ml]) (op := .binOp .lss 3 (.tmp 0) (.tmp 1) 3) (ty := 0) (r := xb (decide ((kx : Int) < 70))) (v := xb true) (by kernel_rfl) (congrArg (fun z => xb z) (decide_eq_true (by omega)))) trivial) (by kernel_rfl)) (by kernel_rfl) ?_
    refine Wp.condT (by kernel_rfl) ?_
    refine Wp.skip ?_
    refine Wp.seq ?_
    refine Wp.block ?_
    refine Wp.region [(2, xi (-kx - 770000), [o, tr NI true ml]), (4, .y (.one (.row 1 (ml ++ [(-kx - 770000)]).length 0 ((ml ++ [(-kx - 770000)]).length) false)), [o, tr NI true (ml ++ [(-kx - 770000)])])] [(0, .y (.one (sv NI b nil capd l))), (3, .y (.one (.row 1 (ml ++ [(-kx - 770000)]).length 0 ((ml ++ [(-kx - 770000)]).length) false))), (4, xi kx)] [o, tr NI true (ml ++ [(-kx - 770000)])]
      (cast (And.intro (ob_raw (P := pg) (A := an) (vals := [xi (-770000), xi kx]) (H := [o, tr NI true ml]) (op := .binOp .sub 3 (.tmp 0) (.tmp 1) 3) (ty := 0) (r := xi (IntKind.wrap .i64 ((-770000) - kx))) (v := xi (-kx - 770000)) (by kernel_rfl) (congrArg (fun z => xi z) ((wrap64 (by omega)).trans (by omega)))) (And.intro (ob_append (P := pg) (A := an) (H := [o, tr NI true ml]) (s := NI) (t := 22) (u := 22) (el := 3) (by_ := 8) (z := [vi 0]) (ty := 0) (pu := true) (b := false) (nil := false) (capd := true) (id := 1) (l := ml) (m := [(-kx - 770000)]) (by kernel_rfl) (by kernel_rfl) (by kernel_rfl) (by kernel_rfl) (by kernel_rfl) (by kernel_rfl) (by kernel_rfl) (by have e1 : (ml.length : Int) = ((l.length : Int) + kx) := by { first | omega | (simp; done) | (simp; omega) }; have e2 : (([(-kx - 770000)] : List Int).length : Int) = 1 := by { first | omega | (simp; done) | (simp; omega) }; omega) (by have e1 : (ml.length : Int) = ((l.length : Int) + kx) := by { first | omega | (simp; done) | (simp; omega) }; have e2 : (([(-kx - 770000)] : List Int).length : Int) = 1 := by { first | omega | (simp; done) | (simp; omega) }; omega)) trivial)) (by kernel_rfl)) (by kernel_rfl) ?_
    refine Wp.region [(1, xi (kx + 1), [o, tr NI true (ml ++ [(-kx - 770000)])])] [(0, .y (.one (sv NI b nil capd l))), (3, .y (.one (.row 1 (ml ++ [(-kx - 770000)]).length 0 ((ml ++ [(-kx - 770000)]).length) false))), (4, xi (kx + 1))] [o, tr NI true (ml ++ [(-kx - 770000)])]
      (cast (And.intro (ob_raw (P := pg) (A := an) (vals := [xi kx, xi 1]) (H := [o, tr NI true (ml ++ [(-kx - 770000)])]) (op := .binOp .add 3 (.tmp 0) (.tmp 1) 3) (ty := 0) (r := xi (IntKind.wrap .i64 (kx + 1))) (v := xi (kx + 1)) (by kernel_rfl) (congrArg (fun z => xi z) ((wrap64 (by omega)).trans (by omega)))) trivial) (by kernel_rfl)) (by kernel_rfl) ?_
    exact ⟨((kx + 1), (ml ++ [(-kx - 770000)])), by kernel_rfl, (by exact ⟨by omega, by omega, by rw [h3, mk_succ (by omega), List.append_assoc, show -770000 - kx = -kx - 770000 by omega], by simp; omega⟩), (by show (_ : Nat) < _; simp only []; omega)⟩
  ·
    refine Wp.regionSeq [(1, xb false, [o, tr NI true ml])] [(0, .y (.one (sv NI b nil capd l))), (3, .y (.one (.row 1 ml.length 0 ml.length false))), (4, xi kx), (13, xb false)] [o, tr NI true ml]
      (cast (And.intro (ob_raw (P := pg) (A := an) (vals := [xi kx, xi 70]) (H := [o, tr NI true ml]) (op := .binOp .lss 3 (.tmp 0) (.tmp 1) 3) (ty := 0) (r := xb (decide ((kx : Int) < 70))) (v := xb false) (by kernel_rfl) (congrArg (fun z => xb z) (decide_eq_false (by omega)))) trivial) (by kernel_rfl)) (by kernel_rfl) ?_
    refine Wp.condF (by kernel_rfl) ?_
    refine Wp.exit ?_
    obtain rfl : ml = l ++ mk 70 := by { rw [h3, show kx.toNat = 70 by omega] }
    refine Eq.mpr (if_pos rfl) ?_
    refine Wp.regionSeq [(3, .y (.one (.row 1 (l ++ mk 70).length 0 ((((l.length : Int) : Int).toNat)) false)), [o, tr NI true (l ++ mk 70)])] [(2, .y (.one (.row 1 (l ++ mk 70).length 0 ((((l.length : Int) : Int).toNat)) false)))] [o, tr NI true (l ++ mk 70)]
      (cast (And.intro (ob_slice_row0 (P := pg) (A := an) (H := [o, tr NI true (l ++ mk 70)]) (s := NI) (t := 22) (el := 3) (ty := 0) (pu := true) (id := 1) (off := 0) (n := ((l ++ mk 70).length)) (l := (l ++ mk 70)) (b := (l.length : Int)) (n' := (((l.length : Int) : Int).toNat)) (by kernel_rfl) (by kernel_rfl) (by kernel_rfl) (by omega) (by first | omega | (simp; done) | (simp; omega)) (by omega)) trivial) (by kernel_rfl)) (by kernel_rfl) ?_
    refine Wp.ret ?_
    exact ⟨Or.inr rfl, [.one (.row 1 (l ++ mk 70).length 0 ((((l.length : Int) : Int).toNat)) false)], by kernel_rfl, ⟨rfl, rfl⟩⟩
end Go.Proofs.Ytoieblpjklbmoaa
