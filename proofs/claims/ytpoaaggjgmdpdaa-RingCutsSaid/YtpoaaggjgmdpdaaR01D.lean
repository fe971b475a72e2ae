/-
  Ring: Same. (Printed by sx/r01.py.)
-/
import Derived.Test.YtpoaaggjgmdpdaaR01B
namespace Go.Proofs.Ytpoaaggjgmdpdaa
open Go.Lg
set_option linter.unusedVariables false
set_option maxRecDepth 100000
set_option maxHeartbeats 8000000
set_option linter.unusedSimpArgs false
theorem alike_next {a b : List Int} {i x y : Int} (h0 : 0 ≤ i) (h : a.take i.toNat = b.take i.toNat) (hx : a[i.toNat]? = some x) (hy : b[i.toNat]? = some y) (e : x = y) : a.take (i + 1).toNat = b.take (i + 1).toNat := by
  rw [take_snoc h0 hx, take_snoc h0 hy, h, e]
theorem alike_not {a b : List Int} {i x y : Int} (hx : a[i.toNat]? = some x) (hy : b[i.toNat]? = some y) (e : ¬ x = y) : decide (a = b) = false := by
  apply decide_eq_false
  rintro rfl
  rw [hx] at hy
  exact e (Option.some.inj hy)

theorem fn17 (b nil capd b2 nil2 capd2 : Bool) (l r : List Int) (hl : (l.length : Int) ≤ 4611686018427387904) (hr : (r.length : Int) ≤ 4611686018427387904) : PureC pg an 17 [.one (sv NI b nil capd l), .one (sv NI b2 nil2 capd2 r)] [.one (vb (decide (l = r)))] := by
 refine Runs.of (fn := Try.f17) Try.func17 rfl (by kernel_rfl) [(0, .y (.one (sv NI b nil capd l))), (1, .y (.one (sv NI b2 nil2 capd2 r)))] (by kernel_rfl) ?_
 refine Wp.regionSeq [] [(0, .y (.one (sv NI b nil capd l))), (1, .y (.one (sv NI b2 nil2 capd2 r)))] []
   (cast trivial (by kernel_rfl)) (by kernel_rfl) ?_
 refine Wp.seq ?_
 by_cases c1 : ((l.length : Int) : Int) = (r.length : Int)
 ·
  refine Wp.regionSeq [(4, xb false, [])] [(0, .y (.one (sv NI b nil capd l))), (1, .y (.one (sv NI b2 nil2 capd2 r))), (10, xb false)] []
    (cast (And.intro (ob_raw (P := pg) (A := an) (vals := [xi (l.length : Int), xi (r.length : Int)]) (H := []) (op := .binOp .neq 3 (.tmp 0) (.tmp 1) 3) (ty := 0) (r := xb (((l.length : Int) : Int) != (r.length : Int))) (v := xb false) (by kernel_rfl) (congrArg (fun z => xb z) (bne_f (by omega)))) trivial) (by kernel_rfl)) (by kernel_rfl) ?_
  refine Wp.condF (by kernel_rfl) ?_
  refine Wp.skip ?_
  refine Wp.seq ?_
  refine Wp.regionSeq [] [(0, .y (.one (sv NI b nil capd l))), (1, .y (.one (sv NI b2 nil2 capd2 r))), (5, xi 0)] []
    (cast trivial (by kernel_rfl)) (by kernel_rfl) ?_
  refine Wp.block ?_
  refine Wp.loop (T := Int) (fun (t : Int) => let i := t; (((l.length : Int) - i).toNat : Nat)) (fun (t : Int) => let i := t; ([(0, .y (.one (sv NI b nil capd l))), (1, .y (.one (sv NI b2 nil2 capd2 r))), (5, xi i)] : Env)) (fun (t : Int) => let i := t; ([] : Go.Lg.Heap))
    (fun (t : Int) => let i := t; (0 ≤ i ∧ i ≤ (l.length : Int) ∧ l.take i.toNat = r.take i.toNat : Prop)) 0 (by kernel_rfl) (by exact ⟨by omega, by omega, by simp⟩) ?_
  rintro i ⟨h1, h2, h3⟩
  show Wp _ _ _ _ [(0, .y (.one (sv NI b nil capd l))), (1, .y (.one (sv NI b2 nil2 capd2 r))), (5, xi i)] [] _
  refine Wp.seq ?_
  by_cases c2 : (i : Int) < (l.length : Int)
  ·
   refine Wp.regionSeq [(3, xb true, [])] [(0, .y (.one (sv NI b nil capd l))), (1, .y (.one (sv NI b2 nil2 capd2 r))), (5, xi i), (14, xb true)] []
     (cast (And.intro (ob_raw (P := pg) (A := an) (vals := [xi i, xi (l.length : Int)]) (H := []) (op := .binOp .lss 3 (.tmp 0) (.tmp 1) 3) (ty := 0) (r := xb (decide ((i : Int) < (l.length : Int)))) (v := xb true) (by kernel_rfl) (congrArg (fun z => xb z) (decide_eq_true (by omega)))) trivial) (by kernel_rfl)) (by kernel_rfl) ?_
   refine Wp.condT (by kernel_rfl) ?_
   refine Wp.skip ?_
   refine Wp.seq ?_
   refine Wp.block ?_
   obtain ⟨x3, hx3⟩ : ∃ x, l[(i : Int).toNat]? = some x := get_of (by omega)
   obtain ⟨x4, hx4⟩ : ∃ x, r[(i : Int).toNat]? = some x := get_of (by omega)
   by_cases c5 : (x3 : Int) = x4
   ·
    refine Wp.regionSeq [(2, .y (.one (.rd ([vi x3] ++ (l.drop ((i : Int).toNat + 1)).flatMap (enc NI)))), []), (6, .y (.one (.rd ([vi x4] ++ (r.drop ((i : Int).toNat + 1)).flatMap (enc NI)))), []), (8, xb false, [])] [(0, .y (.one (sv NI b nil capd l))), (1, .y (.one (sv NI b2 nil2 capd2 r))), (5, xi i), (25, xb false)] []
      (cast (And.intro (ob_index (P := pg) (A := an) (H := []) (s := NI) (b := b) (nil := nil) (capd := capd) (t := 22) (el := 3) (i := i) Try.underlying22 (by kernel_rfl) (by kernel_rfl) (by omega) hx3) (And.intro (ob_index (P := pg) (A := an) (H := []) (s := NI) (b := b2) (nil := nil2) (capd := capd2) (t := 22) (el := 3) (i := i) Try.underlying22 (by kernel_rfl) (by kernel_rfl) (by omega) hx4) (And.intro (ob_raw (P := pg) (A := an) (vals := [xi x3, xi x4]) (H := []) (op := .binOp .neq 3 (.tmp 0) (.tmp 1) 3) (ty := 0) (r := xb ((x3 : Int) != x4)) (v := xb false) (by kernel_rfl) (congrArg (fun z => xb z) (bne_f (by omega)))) trivial))) (by kernel_rfl)) (by kernel_rfl) ?_
    refine Wp.condF (by kernel_rfl) ?_
    refine Wp.skip ?_
    refine Wp.region [(1, xi (i + 1), [])] [(0, .y (.one (sv NI b nil capd l))), (1, .y (.one (sv NI b2 nil2 capd2 r))), (5, xi (i + 1))] []
      (cast (And.intro (ob_raw (P := pg) (A := an) (vals := [xi i, xi 1]) (H := []) (op := .binOp .add 3 (.tmp 0) (.tmp 1) 3) (ty := 0) (r := xi (IntKind.wrap .i64 (i + 1))) (v := xi (i + 1)) (by kernel_rfl) (congrArg (fun z => xi z) ((wrap64 (by omega)).trans (by omega)))) trivial) (by kernel_rfl)) (by kernel_rfl) ?_
    exact ⟨(i + 1), by kernel_rfl, (by exact ⟨by omega, by omega, alike_next (by omega) h3 hx3 hx4 (by omega)⟩), (by show (_ : Nat) < _; simp only []; omega)⟩
   ·
    refine Wp.regionSeq [(2, .y (.one (.rd ([vi x3] ++ (l.drop ((i : Int).toNat + 1)).flatMap (enc NI)))), []), (6, .y (.one (.rd ([vi x4] ++ (r.drop ((i : Int).toNat + 1)).flatMap (enc NI)))), []), (8, xb true, [])] [(0, .y (.one (sv NI b nil capd l))), (1, .y (.one (sv NI b2 nil2 capd2 r))), (5, xi i), (25, xb true)] []
      (cast (And.intro (ob_index (P := pg) (A := an) (H := []) (s := NI) (b := b) (nil := nil) (capd := capd) (t := 22) (el := 3) (i := i) Try.underlying22 (by kernel_rfl) (by kernel_rfl) (by omega) hx3) (And.intro (ob_index (P := pg) (A := an) (H := []) (s := NI) (b := b2) (nil := nil2) (capd := capd2) (t := 22) (el := 3) (i := i) Try.underlying22 (by kernel_rfl) (by kernel_rfl) (by omega) hx4) (And.intro (ob_raw (P := pg) (A := an) (vals := [xi x3, xi x4]) (H := []) (op := .binOp .neq 3 (.tmp 0) (.tmp 1) 3) (ty := 0) (r := xb ((x3 : Int) != x4)) (v := xb true) (by kernel_rfl) (congrArg (fun z => xb z) (bne_t (by omega)))) trivial))) (by kernel_rfl)) (by kernel_rfl) ?_
    refine Wp.condT (by kernel_rfl) ?_
    refine Wp.regionSeq [] [(4, xb false)] []
      (cast trivial (by kernel_rfl)) (by kernel_rfl) ?_
    refine Wp.ret ?_
    exact ⟨Or.inr rfl, [.one (vb false)], by kernel_rfl, (congrArg (fun z => some [Y.one (vb z)]) (show false = decide (l = r) from (alike_not hx3 hx4 (by omega)).symm))⟩
  ·
   refine Wp.regionSeq [(3, xb false, [])] [(0, .y (.one (sv NI b nil capd l))), (1, .y (.one (sv NI b2 nil2 capd2 r))), (5, xi i), (14, xb false)] []
     (cast (And.intro (ob_raw (P := pg) (A := an) (vals := [xi i, xi (l.length : Int)]) (H := []) (op := .binOp .lss 3 (.tmp 0) (.tmp 1) 3) (ty := 0) (r := xb (decide ((i : Int) < (l.length : Int)))) (v := xb false) (by kernel_rfl) (congrArg (fun z => xb z) (decide_eq_false (by omega)))) trivial) (by kernel_rfl)) (by kernel_rfl) ?_
   refine Wp.condF (by kernel_rfl) ?_
   refine Wp.exit ?_
   refine Eq.mpr (if_pos rfl) ?_
   refine Wp.regionSeq [] [(4, xb true)] []
     (cast trivial (by kernel_rfl)) (by kernel_rfl) ?_
   refine Wp.ret ?_
   exact ⟨Or.inr rfl, [.one (vb true)], by kernel_rfl, (congrArg (fun z => some [Y.one (vb z)]) (show true = decide (l = r) from by rw [decide_eq_true]; rw [show i.toNat = l.length by omega, List.take_length] at h3; rw [h3]; exact (List.take_of_length_le (by omega))))⟩
 ·
  refine Wp.regionSeq [(4, xb true, [])] [(0, .y (.one (sv NI b nil capd l))), (1, .y (.one (sv NI b2 nil2 capd2 r))), (10, xb true)] []
    (cast (And.intro (ob_raw (P := pg) (A := an) (vals := [xi (l.length : Int), xi (r.length : Int)]) (H := []) (op := .binOp .neq 3 (.tmp 0) (.tmp 1) 3) (ty := 0) (r := xb (((l.length : Int) : Int) != (r.length : Int))) (v := xb true) (by kernel_rfl) (congrArg (fun z => xb z) (bne_t (by omega)))) trivial) (by kernel_rfl)) (by kernel_rfl) ?_
  refine Wp.condT (by kernel_rfl) ?_
  refine Wp.regionSeq [] [(4, xb false)] []
    (cast trivial (by kernel_rfl)) (by kernel_rfl) ?_
  refine Wp.ret ?_
  exact ⟨Or.inr rfl, [.one (vb false)], by kernel_rfl, (congrArg (fun z => some [Y.one (vb z)]) (show false = decide (l = r) from by symm; apply decide_eq_false; rintro rfl; omega))⟩
end Go.Proofs.Ytpoaaggjgmdpdaa
