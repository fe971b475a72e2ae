/-
  Ring: what the law marks. (Printed by sx/r01s.py.)
-/
import Derived.Test.YtpoaaggjgmdpdaaR01G
import Derived.Test.YtpoaaggjgmdpdaaR01I
namespace Go.Proofs.Ytpoaaggjgmdpdaa
open Go.Lg
set_option linter.unusedVariables false
set_option maxRecDepth 100000
set_option maxHeartbeats 8000000
set_option linter.unusedSimpArgs false
theorem marked_ok (R : HP) (H : Go.Lg.Heap) (c : C) (l : List Int) (kk : Int) (hs : On [R, itemsP NI c l] H) (h1 : (l.length : Int) ≤ 17592186043904) (h2 : -35184372088832 ≤ kk) (h3 : kk ≤ 35184372088832) : ∃ rs H', Runs pg an 18 [.one (c), .one (vi kk)] H rs H' ∧ rs = [] ∧ On [R] H' := by
 obtain ⟨rfl, hl3, hs1⟩ | ⟨k4, d5, L6, o7, cd8, rfl, ho9, hc10, hl11, hs2⟩ := items_open hs 1 rfl
 ·
  have hl3n : (l.length : Int) = 0 := by rw [hl3]; rfl
  refine Runs.of (fn := Try.f18) Try.func18 rfl (by kernel_rfl) [(0, .y (.one (.sl false true true [] 0))), (1, xi kk)] (by kernel_rfl) ?_
  refine Wp.seq ?_
  refine Wp.regionSeq [] [(0, .y (.one (.sl false true true [] 0))), (1, xi kk), (4, xi 0)] H
    (cast trivial (by kernel_rfl)) (by kernel_rfl) ?_
  refine Wp.block ?_
  refine Wp.loopU [(0, .y (.one (.sl false true true [] 0))), (1, xi kk), (4, xi 0)] (some ([0, 1, 4], false)) (List.length H) (by kernel_rfl) ?_
  refine WpL.step ?_
  refine Wp.seq ?_
  refine Wp.regionSeq [] [(0, .y (.one (.sl false true true [] 0))), (1, xi kk), (4, xi 0), (9, xb false)] H
    (cast trivial (by kernel_rfl)) (by kernel_rfl) ?_
  refine Wp.condF (by kernel_rfl) ?_
  refine Wp.exit ?_
  refine Eq.mpr (if_pos rfl) ?_
  refine Wp.regionSeq [] [(0, .y (.one (.sl false true true [] 0))), (1, xi kk), (5, xi 0)] H
    (cast trivial (by kernel_rfl)) (by kernel_rfl) ?_
  refine Wp.block ?_
  have hs12 : On [R, itemsP NI (.sl false true true [] 0) ([] : List Int)] H := On.shut (cs := [R]) [] [0] rfl (fun _ _ => by rw [show ([] : List Int) = ([] : List Int) from rfl]; exact items_nil) hs1
  refine Wp.loop (T := Go.Lg.Heap × Int × C × List Int) (fun (t : Go.Lg.Heap × Int × C × List Int) => match t with | (H14, j, cv, l2) => ((20 - j).toNat : Nat)) (fun (t : Go.Lg.Heap × Int × C × List Int) => match t with | (H14, j, cv, l2) => ([(0, .y (.one (cv))), (1, xi kk), (5, xi j)] : Env)) (fun (t : Go.Lg.Heap × Int × C × List Int) => match t with | (H14, j, cv, l2) => (H14 : Go.Lg.Heap))
    (fun (t : Go.Lg.Heap × Int × C × List Int) => match t with | (H14, j, cv, l2) => (On [R, itemsP NI cv l2] H14 ∧ (0 ≤ j) ∧ (j ≤ 20) ∧ ((l2.length : Int) ≤ 17592186043904 + j) : Prop)) (H, 0, (.sl false true true [] 0), ([] : List Int)) (by kernel_rfl) (⟨(On.pick [0, 1] [] rfl hs12), by omega, by omega, by simp⟩) ?_
  rintro ⟨H14, j, cv, l2⟩ ⟨hs15, k1, k2, k3⟩
  show Wp _ _ _ _ [(0, .y (.one (cv))), (1, xi kk), (5, xi j)] H14 _
  refine Wp.seq ?_
  by_cases c16 : (j : Int) < 20
  ·
   refine Wp.regionSeq [(1, xb true, H14)] [(0, .y (.one (cv))), (1, xi kk), (5, xi j), (18, xb true)] H14
     (cast (And.intro (ob_raw (P := pg) (A := an) (vals := [xi j, xi 20]) (H := H14) (op := .binOp .lss 3 (.tmp 0) (.tmp 1) 3) (ty := 0) (r := xb (decide ((j : Int) < 20))) (v := xb true) (by kernel_rfl) (congrArg (fun z => xb z) (decide_eq_true (by omega)))) trivial) (by kernel_rfl)) (by kernel_rfl) ?_
   refine Wp.condT (by kernel_rfl) ?_
   refine Wp.skip ?_
   refine Wp.seq ?_
   refine Wp.block ?_
   obtain ⟨rfl, hl19, hs17⟩ | ⟨k20, d21, L22, o23, cd24, rfl, ho25, hc26, hl27, hs18⟩ := items_open hs15 1 rfl
   ·
    have hl19n : (l2.length : Int) = 0 := by rw [hl19]; rfl
    obtain ⟨n28, hn28⟩ : ∃ n, n = List.length (H14 : Go.Lg.Heap) := ⟨_, rfl⟩
    have hlfz29 : ([(-kk - 880000)].length : Int) = 1 := by { first | rfl | omega | (simp only [List.length_nil]; omega) | (simp; done) | (simp; omega) }
    refine Wp.regionK [(2, xi (-kk - 880000), H14), (4, .y (.one (rowC n28 0 ([(-kk - 880000)] : List Int).length 0 (([(-kk - 880000)] : List Int).length) false)), (H14 ++ [rowO NI true 0 ([(-kk - 880000)] : List Int)]))] [(0, .y (.one (rowC n28 0 ([(-kk - 880000)] : List Int).length 0 (([(-kk - 880000)] : List Int).length) false))), (1, xi kk), (5, xi j)] (H14 ++ [rowO NI true 0 ([(-kk - 880000)] : List Int)])
      (cast (And.intro (ob_raw (P := pg) (A := an) (vals := [xi (-880000), xi kk]) (H := H14) (op := .binOp .sub 3 (.tmp 0) (.tmp 1) 3) (ty := 0) (r := xi (IntKind.wrap .i64 ((-880000) - kk))) (v := xi (-kk - 880000)) (by kernel_rfl) (congrArg (fun z => xi z) ((wrap64 (by omega)).trans (by omega)))) (And.intro (or_append_new (P := pg) (A := an) (H := H14) (s := NI) (t := 22) (u := 22) (el := 3) (by_ := 8) (z := [vi 0]) (ty := 0) (b' := false) (nil' := true) (pu := true) (puy := true) (m := 1) (n' := ([(-kk - 880000)] : List Int).length) (k := n28) (nl := 0) (l := ([] : List Int)) (lm := ([(-kk - 880000)])) (l' := ([(-kk - 880000)] : List Int)) (y := .sl false false true [vi (-kk - 880000)] 1) hn28 (by first | rfl | omega | (simp only [List.length_nil]; omega) | (simp; done) | (simp; omega)) (by kernel_rfl) (slCells_slO (H := H14) (s := NI) (b := false) (nil := false) (capd := true) (l := [(-kk - 880000)]) (n := 1) (by first | rfl | omega | (simp only [List.length_nil]; omega) | (simp; done) | (simp; omega))) (by kernel_rfl) (by kernel_rfl) (by kernel_rfl) (by kernel_rfl) (by kernel_rfl) (by kernel_rfl) (by kernel_rfl) (by first | rfl | omega | (simp only [List.length_nil]; omega) | (simp; done) | (simp; omega)) (by first | rfl | omega | (simp only [List.length_nil]; omega) | (simp; done) | (simp; omega)) (by omega) (by omega) (List.nil_append _) (by first | rfl | omega | (simp only [List.length_append, List.length_nil]; omega) | (simp; done) | (simp; omega))) trivial)) (by kernel_rfl)) (by kernel_rfl) ?_
    refine Wp.gen (cs := [R, pts n28 (rowO NI true 0 ([(-kk - 880000)] : List Int))]) (On.new' hn28 (rowO NI true 0 ([(-kk - 880000)] : List Int)) hs17) ?_
    intro H31 hs32
    refine Wp.skip ?_
    refine Wp.region [(1, xi (j + 1), H31)] [(0, .y (.one (rowC n28 0 ([(-kk - 880000)] : List Int).length 0 (([(-kk - 880000)] : List Int).length) false))), (1, xi kk), (5, xi (j + 1))] H31
      (cast (And.intro (ob_raw (P := pg) (A := an) (vals := [xi j, xi 1]) (H := H31) (op := .binOp .add 3 (.tmp 0) (.tmp 1) 3) (ty := 0) (r := xi (IntKind.wrap .i64 (j + 1))) (v := xi (j + 1)) (by kernel_rfl) (congrArg (fun z => xi z) ((wrap64 (by omega)).trans (by omega)))) trivial) (by kernel_rfl)) (by kernel_rfl) ?_
    have hs33 : On [R, itemsP NI (rowC n28 0 ([(-kk - 880000)] : List Int).length 0 (([(-kk - 880000)] : List Int).length) false) ([(-kk - 880000)] : List Int)] H31 := On.shut (cs := [R, pts n28 (rowO NI true 0 ([(-kk - 880000)] : List Int))]) [1] [0] rfl (fun _ x => items_row (by first | rfl | omega | (simp only [List.length_nil]; omega) | (simp; done) | (simp; omega)) (by first | rfl | omega | (simp only [List.length_nil]; omega) | (simp; done) | (simp; omega)) (fun _ => by first | rfl | omega | (simp only [List.length_nil]; omega) | (simp; done) | (simp; omega)) (dt0 rfl (Nat.le_refl _)) x) hs32
    exact ⟨(H31, (j + 1), (rowC n28 0 ([(-kk - 880000)] : List Int).length 0 (([(-kk - 880000)] : List Int).length) false), ([(-kk - 880000)] : List Int)), by kernel_rfl, (⟨(On.pick [0, 1] [] rfl hs33), by omega, by omega, by first | omega | (simp; omega)⟩), (by show (_ : Nat) < _; simp only []; omega)⟩
   ·
    rcases Bool.eq_false_or_eq_true cd24 with rfl | rfl
    ·
     obtain ⟨n34, hn34⟩ : ∃ n, n = List.length (H14 : Go.Lg.Heap) := ⟨_, rfl⟩
     have hlfz35 : ([(-kk - 880000)].length : Int) = 1 := by { first | rfl | omega | (simp only [List.length_nil]; omega) | (simp; done) | (simp; omega) }
     have hlfz37 : ((l2 ++ [(-kk - 880000)]).length : Int) = ((l2.length : Int) + 1) := by { first | rfl | omega | (simp only [List.length_nil]; omega) | (simp; done) | (simp; omega) }
     refine Wp.regionK [(2, xi (-kk - 880000), H14), (4, .y (.one (rowC n34 0 (l2 ++ [(-kk - 880000)]).length 0 ((l2 ++ [(-kk - 880000)]).length) false)), (H14 ++ [rowO NI true 0 (l2 ++ [(-kk - 880000)])]))] [(0, .y (.one (rowC n34 0 (l2 ++ [(-kk - 880000)]).length 0 ((l2 ++ [(-kk - 880000)]).length) false))), (1, xi kk), (5, xi j)] (H14 ++ [rowO NI true 0 (l2 ++ [(-kk - 880000)])])
       (cast (And.intro (ob_raw (P := pg) (A := an) (vals := [xi (-880000), xi kk]) (H := H14) (op := .binOp .sub 3 (.tmp 0) (.tmp 1) 3) (ty := 0) (r := xi (IntKind.wrap .i64 ((-880000) - kk))) (v := xi (-kk - 880000)) (by kernel_rfl) (congrArg (fun z => xi z) ((wrap64 (by omega)).trans (by omega)))) (And.intro (or_append_cap (P := pg) (A := an) (H := H14) (s := NI) (t := 22) (u := 22) (el := 3) (by_ := 8) (z := [vi 0]) (ty := 0) (pu := true) (puy := true) (id := k20) (d := d21) (o := o23) (n := l2.length) (m := 1) (l := L22) (lm := ([(-kk - 880000)])) (y := .sl false false true [vi (-kk - 880000)] 1) (n' := (l2 ++ [(-kk - 880000)]).length) (k := n34) (l' := (l2 ++ [(-kk - 880000)])) hn34 (On.at hs18 1 rfl) (slCells_slO (H := H14) (s := NI) (b := false) (nil := false) (capd := true) (l := [(-kk - 880000)]) (n := 1) (by first | rfl | omega | (simp only [List.length_nil]; omega) | (simp; done) | (simp; omega))) (by kernel_rfl) (by kernel_rfl) (by kernel_rfl) (by kernel_rfl) (by kernel_rfl) (by kernel_rfl) (by kernel_rfl) (by first | rfl | omega | (simp only [List.length_nil]; omega) | (simp; done) | (simp; omega)) (by first | rfl | omega | (simp only [List.length_nil]; omega) | (simp; done) | (simp; omega)) (by first | rfl | omega | (simp only [List.length_nil]; omega) | (simp; done) | (simp; omega)) (by omega) (by omega) (congrArg (fun z => z ++ _) (hl27)) (by first | (simp only [List.length_append]; done) | (simp only [List.length_append]; first | omega | (simp; done) | (simp; omega)))) trivial)) (by kernel_rfl)) (by kernel_rfl) ?_
     refine Wp.gen (cs := [R, pts k20 (rowO NI true d21 L22), pts n34 (rowO NI true 0 (l2 ++ [(-kk - 880000)]))]) (On.new' hn34 (rowO NI true 0 (l2 ++ [(-kk - 880000)])) hs18) ?_
     intro H40 hs41
     refine Wp.skip ?_
     refine Wp.region [(1, xi (j + 1), H40)] [(0, .y (.one (rowC n34 0 (l2 ++ [(-kk - 880000)]).length 0 ((l2 ++ [(-kk - 880000)]).length) false))), (1, xi kk), (5, xi (j + 1))] H40
       (cast (And.intro (ob_raw (P := pg) (A := an) (vals := [xi j, xi 1]) (H := H40) (op := .binOp .add 3 (.tmp 0) (.tmp 1) 3) (ty := 0) (r := xi (IntKind.wrap .i64 (j + 1))) (v := xi (j + 1)) (by kernel_rfl) (congrArg (fun z => xi z) ((wrap64 (by omega)).trans (by omega)))) trivial) (by kernel_rfl)) (by kernel_rfl) ?_
     have hs42 : On [R, pts k20 (rowO NI true d21 L22), itemsP NI (rowC n34 0 (l2 ++ [(-kk - 880000)]).length 0 ((l2 ++ [(-kk - 880000)]).length) false) (l2 ++ [(-kk - 880000)])] H40 := On.shut (cs := [R, pts k20 (rowO NI true d21 L22), pts n34 (rowO NI true 0 (l2 ++ [(-kk - 880000)]))]) [2] [0, 1] rfl (fun _ x => items_row (by first | rfl | omega | (simp only [List.length_nil]; omega) | (simp; done) | (simp; omega)) (by first | rfl | omega | (simp only [List.length_nil]; omega) | (simp; done) | (simp; omega)) (fun _ => by first | rfl | omega | (simp only [List.length_nil]; omega) | (simp; done) | (simp; omega)) (dt0 rfl (Nat.le_refl _)) x) hs41
     exact ⟨(H40, (j + 1), (rowC n34 0 (l2 ++ [(-kk - 880000)]).length 0 ((l2 ++ [(-kk - 880000)]).length) false), (l2 ++ [(-kk - 880000)])), by kernel_rfl, (⟨(On.pick [0, 2] [1] rfl hs42), by omega, by omega, by first | omega | (simp; omega)⟩), (by show (_ : Nat) < _; simp only []; omega)⟩
    ·
     have hc26z := hc26 rfl
     have hlfz43 : ([(-kk - 880000)].length : Int) = 1 := by { first | rfl | omega | (simp only [List.length_nil]; omega) | (simp; done) | (simp; omega) }
     have hlfz45 : ((l2 ++ [(-kk - 880000)]).length : Int) = ((l2.length : Int) + 1) := by { first | rfl | omega | (simp only [List.length_nil]; omega) | (simp; done) | (simp; omega) }
     refine Wp.regionK [(2, xi (-kk - 880000), H14), (4, .y (.one (rowC k20 (d21 + o23) (l2 ++ [(-kk - 880000)]).length 0 ((l2 ++ [(-kk - 880000)]).length) false)), (List.set (α := O) H14 k20 (rowO NI true (d21 + o23) (l2 ++ [(-kk - 880000)]))))] [(0, .y (.one (rowC k20 (d21 + o23) (l2 ++ [(-kk - 880000)]).length 0 ((l2 ++ [(-kk - 880000)]).length) false))), (1, xi kk), (5, xi j)] (List.set (α := O) H14 k20 (rowO NI true (d21 + o23) (l2 ++ [(-kk - 880000)])))
       (cast (And.intro (ob_raw (P := pg) (A := an) (vals := [xi (-880000), xi kk]) (H := H14) (op := .binOp .sub 3 (.tmp 0) (.tmp 1) 3) (ty := 0) (r := xi (IntKind.wrap .i64 ((-880000) - kk))) (v := xi (-kk - 880000)) (by kernel_rfl) (congrArg (fun z => xi z) ((wrap64 (by omega)).trans (by omega)))) (And.intro (or_append (P := pg) (A := an) (H := H14) (s := NI) (t := 22) (u := 22) (el := 3) (by_ := 8) (z := [vi 0]) (ty := 0) (pu := true) (puy := true) (id := k20) (d := d21) (o := o23) (n := l2.length) (m := 1) (l := L22) (lm := ([(-kk - 880000)])) (y := .sl false false true [vi (-kk - 880000)] 1) (d' := (d21 + o23)) (l' := (l2 ++ [(-kk - 880000)])) (n' := (l2 ++ [(-kk - 880000)]).length) (On.at hs18 1 rfl) (slCells_slO (H := H14) (s := NI) (b := false) (nil := false) (capd := true) (l := [(-kk - 880000)]) (n := 1) (by first | rfl | omega | (simp only [List.length_nil]; omega) | (simp; done) | (simp; omega))) (by kernel_rfl) (by kernel_rfl) (by kernel_rfl) (by kernel_rfl) (by kernel_rfl) (by kernel_rfl) (by kernel_rfl) (by first | rfl | omega | (simp only [List.length_nil]; omega) | (simp; done) | (simp; omega)) (by first | rfl | omega | (simp only [List.length_nil]; omega) | (simp; done) | (simp; omega)) (by first | rfl | omega | (simp only [List.length_nil]; omega) | (simp; done) | (simp; omega)) (by omega) (by omega) (by omega) (congrArg (fun z => z ++ ([(-kk - 880000)])) (show L22.drop o23 = l2 from (List.take_of_length_le (by rw [List.length_drop]; omega)).symm.trans (hl27))) (by first | (simp only [List.length_append]; done) | (simp only [List.length_append]; first | omega | (simp; done) | (simp; omega)))) trivial)) (by kernel_rfl)) (by kernel_rfl) ?_
     refine Wp.gen (cs := [R, pts k20 (rowO NI true (d21 + o23) (l2 ++ [(-kk - 880000)]))]) (On.put (rowO NI true (d21 + o23) (l2 ++ [(-kk - 880000)])) hs18 1 rfl) ?_
     intro H48 hs49
     refine Wp.skip ?_
     refine Wp.region [(1, xi (j + 1), H48)] [(0, .y (.one (rowC k20 (d21 + o23) (l2 ++ [(-kk - 880000)]).length 0 ((l2 ++ [(-kk - 880000)]).length) false))), (1, xi kk), (5, xi (j + 1))] H48
       (cast (And.intro (ob_raw (P := pg) (A := an) (vals := [xi j, xi 1]) (H := H48) (op := .binOp .add 3 (.tmp 0) (.tmp 1) 3) (ty := 0) (r := xi (IntKind.wrap .i64 (j + 1))) (v := xi (j + 1)) (by kernel_rfl) (congrArg (fun z => xi z) ((wrap64 (by omega)).trans (by omega)))) trivial) (by kernel_rfl)) (by kernel_rfl) ?_
     have hs50 : On [R, itemsP NI (rowC k20 (d21 + o23) (l2 ++ [(-kk - 880000)]).length 0 ((l2 ++ [(-kk - 880000)]).length) false) (l2 ++ [(-kk - 880000)])] H48 := On.shut (cs := [R, pts k20 (rowO NI true (d21 + o23) (l2 ++ [(-kk - 880000)]))]) [1] [0] rfl (fun _ x => items_row (by first | rfl | omega | (simp only [List.length_nil]; omega) | (simp; done) | (simp; omega)) (by first | rfl | omega | (simp only [List.length_nil]; omega) | (simp; done) | (simp; omega)) (fun _ => by first | rfl | omega | (simp only [List.length_nil]; omega) | (simp; done) | (simp; omega)) (dt0 rfl (Nat.le_refl _)) x) hs49
     exact ⟨(H48, (j + 1), (rowC k20 (d21 + o23) (l2 ++ [(-kk - 880000)]).length 0 ((l2 ++ [(-kk - 880000)]).length) false), (l2 ++ [(-kk - 880000)])), by kernel_rfl, (⟨(On.pick [0, 1] [] rfl hs50), by omega, by omega, by first | omega | (simp; omega)⟩), (by show (_ : Nat) < _; simp only []; omega)⟩
  ·
   refine Wp.regionSeq [(1, xb false, H14)] [(0, .y (.one (cv))), (1, xi kk), (5, xi j), (18, xb false)] H14
     (cast (And.intro (ob_raw (P := pg) (A := an) (vals := [xi j, xi 20]) (H := H14) (op := .binOp .lss 3 (.tmp 0) (.tmp 1) 3) (ty := 0) (r := xb (decide ((j : Int) < 20))) (v := xb false) (by kernel_rfl) (congrArg (fun z => xb z) (decide_eq_false (by omega)))) trivial) (by kernel_rfl)) (by kernel_rfl) ?_
   refine Wp.condF (by kernel_rfl) ?_
   refine Wp.exit ?_
   refine Eq.mpr (if_pos rfl) ?_
   refine ⟨Or.inl rfl, [], (by kernel_rfl), ?_⟩
   exact ⟨rfl, (On.pick [0] [1] rfl hs15)⟩
 ·
  refine Runs.of (fn := Try.f18) Try.func18 rfl (by kernel_rfl) [(0, .y (.one (rowC k4 d5 L6.length o7 l.length cd8))), (1, xi kk)] (by kernel_rfl) ?_
  refine Wp.seq ?_
  refine Wp.regionSeq [] [(0, .y (.one (rowC k4 d5 L6.length o7 l.length cd8))), (1, xi kk), (4, xi 0)] H
    (cast trivial (by kernel_rfl)) (by kernel_rfl) ?_
  refine Wp.block ?_
  refine Wp.loop (T := Go.Lg.Heap × Int × List Int) (fun (t : Go.Lg.Heap × Int × List Int) => match t with | (H52, i, M1) => (((l.length : Int) - i).toNat : Nat)) (fun (t : Go.Lg.Heap × Int × List Int) => match t with | (H52, i, M1) => ([(0, .y (.one (rowC k4 d5 M1.length o7 l.length cd8))), (1, xi kk), (4, xi i)] : Env)) (fun (t : Go.Lg.Heap × Int × List Int) => match t with | (H52, i, M1) => (H52 : Go.Lg.Heap))
    (fun (t : Go.Lg.Heap × Int × List Int) => match t with | (H52, i, M1) => (On [R, pts k4 (rowO NI true d5 M1)] H52 ∧ (0 ≤ i) ∧ (i ≤ (l.length : Int)) ∧ ((M1.length : Int) = L6.length) : Prop)) (H, 0, L6) (by kernel_rfl) (⟨(On.pick [0, 1] [] rfl hs2), by omega, by omega, rfl⟩) ?_
  rintro ⟨H52, i, M1⟩ ⟨hs53, g1, g2, g3⟩
  show Wp _ _ _ _ [(0, .y (.one (rowC k4 d5 M1.length o7 l.length cd8))), (1, xi kk), (4, xi i)] H52 _
  refine Wp.seq ?_
  by_cases c54 : (i : Int) < (l.length : Int)
  ·
   refine Wp.regionSeq [(2, xi (l.length : Int), H52), (3, xb true, H52)] [(0, .y (.one (rowC k4 d5 M1.length o7 l.length cd8))), (1, xi kk), (4, xi i), (9, xb true)] H52
     (cast (And.intro (or_len (P := pg) (A := an) (H := H52) (s := NI) (t := 22) (ty := 0) (pu := true) (capd := cd8) (id := k4) (d := d5) (o := o7) (n := l.length) (l := M1) (e := (l.length : Int)) (On.at hs53 1 rfl) (by kernel_rfl) (by first | rfl | omega | (simp only [List.length_nil]; omega) | (simp; done) | (simp; omega))) (And.intro (ob_raw (P := pg) (A := an) (vals := [xi i, xi (l.length : Int)]) (H := H52) (op := .binOp .lss 3 (.tmp 0) (.tmp 1) 3) (ty := 0) (r := xb (decide ((i : Int) < (l.length : Int)))) (v := xb true) (by kernel_rfl) (congrArg (fun z => xb z) (decide_eq_true (by omega)))) trivial)) (by kernel_rfl)) (by kernel_rfl) ?_
   refine Wp.condT (by kernel_rfl) ?_
   refine Wp.skip ?_
   refine Wp.seq ?_
   refine Wp.block ?_
   obtain ⟨x55, hx55⟩ : ∃ x : Int, ((M1.drop o7).take l.length)[(i : Int).toNat]? = some x := get_of (by first | rfl | omega | (simp only [List.length_nil]; omega) | (simp; done) | (simp; omega))
   refine Wp.regionK [(3, xi (-kk - 770000), H52), (4, .y (.one (raC k4 d5 M1.length 1 ((((o7 : Int) + i) : Int).toNat) 0)), H52), (5, .tup [], (List.set (α := O) H52 k4 (.row true true d5 (d5 + M1.length) 1 ((M1.set ((((o7 : Int) + i) : Int).toNat) (-kk - 770000)).flatMap (enc NI)))))] [(0, .y (.one (rowC k4 d5 M1.length o7 l.length cd8))), (1, xi kk), (4, xi i)] (List.set (α := O) H52 k4 (.row true true d5 (d5 + M1.length) 1 ((M1.set ((((o7 : Int) + i) : Int).toNat) (-kk - 770000)).flatMap (enc NI))))
     (cast (And.intro (ob_raw (P := pg) (A := an) (vals := [xi (-770000), xi kk]) (H := H52) (op := .binOp .sub 3 (.tmp 0) (.tmp 1) 3) (ty := 0) (r := xi (IntKind.wrap .i64 ((-770000) - kk))) (v := xi (-kk - 770000)) (by kernel_rfl) (congrArg (fun z => xi z) ((wrap64 (by omega)).trans (by omega)))) (And.intro (or_index (P := pg) (A := an) (H := H52) (s := NI) (t := 22) (el := 3) (ty := 0) (pu := true) (capd := cd8) (id := k4) (d := d5) (o := o7) (n := l.length) (j := ((((o7 : Int) + i) : Int).toNat)) (l := M1) (i := i) (On.at hs53 1 rfl) Try.underlying22 (by kernel_rfl) (by omega) (by first | rfl | omega | (simp only [List.length_nil]; omega) | (simp; done) | (simp; omega)) (by first | rfl | omega | (simp only [List.length_nil]; omega) | (simp; done) | (simp; omega)) (by first | rfl | omega | (simp only [List.length_nil]; omega) | (simp; done) | (simp; omega))) (And.intro (or_store (P := pg) (A := an) (H := H52) (s := NI) (t := 3) (ty := 0) (pu := true) (id := k4) (d := d5) (j := ((((o7 : Int) + i) : Int).toNat)) (o := 0) (l := M1) (x := x55) (x' := (-kk - 770000)) (v := .one (vi (-kk - 770000))) (On.at hs53 1 rfl) (by kernel_rfl) (of_content (rfl) hx55 (by first | rfl | omega | (simp only [List.length_nil]; omega) | (simp; done) | (simp; omega))) (by kernel_rfl) (by kernel_rfl) (by kernel_rfl) (by kernel_rfl)) trivial))) (by kernel_rfl)) (by kernel_rfl) ?_
   have hrl57 : M1.length = (M1.set ((((o7 : Int) + i) : Int).toNat) (-kk - 770000)).length := List.length_set.symm
   refine Eq.mpr (congrArg (fun z : Nat => Wp _ _ _ _ [(0, .y (.one (rowC k4 d5 z o7 l.length cd8))), (1, xi kk), (4, xi i)] (List.set (α := O) H52 k4 (.row true true d5 (d5 + z) 1 ((M1.set ((((o7 : Int) + i) : Int).toNat) (-kk - 770000)).flatMap (enc NI)))) _) hrl57) ?_
   refine Wp.gen (cs := [R, pts k4 (rowO NI true d5 (M1.set ((((o7 : Int) + i) : Int).toNat) (-kk - 770000)))]) (Eq.mp (congrArg (fun z : Nat => On [R, pts k4 (.row true true d5 (d5 + z) 1 ((M1.set ((((o7 : Int) + i) : Int).toNat) (-kk - 770000)).flatMap (enc NI)))] (List.set (α := O) H52 k4 (.row true true d5 (d5 + z) 1 ((M1.set ((((o7 : Int) + i) : Int).toNat) (-kk - 770000)).flatMap (enc NI))))) hrl57) (On.put (.row true true d5 (d5 + M1.length) 1 ((M1.set ((((o7 : Int) + i) : Int).toNat) (-kk - 770000)).flatMap (enc NI))) hs53 1 rfl)) ?_
   intro H58 hs59
   refine Wp.skip ?_
   refine Wp.region [(1, xi (i + 1), H58)] [(0, .y (.one (rowC k4 d5 (M1.set ((((o7 : Int) + i) : Int).toNat) (-kk - 770000)).length o7 l.length cd8))), (1, xi kk), (4, xi (i + 1))] H58
     (cast (And.intro (ob_raw (P := pg) (A := an) (vals := [xi i, xi 1]) (H := H58) (op := .binOp .add 3 (.tmp 0) (.tmp 1) 3) (ty := 0) (r := xi (IntKind.wrap .i64 (i + 1))) (v := xi (i + 1)) (by kernel_rfl) (congrArg (fun z => xi z) ((wrap64 (by omega)).trans (by omega)))) trivial) (by kernel_rfl)) (by kernel_rfl) ?_
   exact ⟨(H58, (i + 1), (M1.set ((((o7 : Int) + i) : Int).toNat) (-kk - 770000))), by kernel_rfl, (⟨(On.pick [0, 1] [] rfl hs59), by omega, by omega, by simp; omega⟩), (by show (_ : Nat) < _; simp only []; omega)⟩
  ·
   refine Wp.regionSeq [(2, xi (l.length : Int), H52), (3, xb false, H52)] [(0, .y (.one (rowC k4 d5 M1.length o7 l.length cd8))), (1, xi kk), (4, xi i), (9, xb false)] H52
     (cast (And.intro (or_len (P := pg) (A := an) (H := H52) (s := NI) (t := 22) (ty := 0) (pu := true) (capd := cd8) (id := k4) (d := d5) (o := o7) (n := l.length) (l := M1) (e := (l.length : Int)) (On.at hs53 1 rfl) (by kernel_rfl) (by first | rfl | omega | (simp only [List.length_nil]; omega) | (simp; done) | (simp; omega))) (And.intro (ob_raw (P := pg) (A := an) (vals := [xi i, xi (l.length : Int)]) (H := H52) (op := .binOp .lss 3 (.tmp 0) (.tmp 1) 3) (ty := 0) (r := xb (decide ((i : Int) < (l.length : Int)))) (v := xb false) (by kernel_rfl) (congrArg (fun z => xb z) (decide_eq_false (by omega)))) trivial)) (by kernel_rfl)) (by kernel_rfl) ?_
   refine Wp.condF (by kernel_rfl) ?_
   refine Wp.exit ?_
   refine Eq.mpr (if_pos rfl) ?_
   refine Wp.regionSeq [] [(0, .y (.one (rowC k4 d5 M1.length o7 l.length cd8))), (1, xi kk), (5, xi 0)] H52
     (cast trivial (by kernel_rfl)) (by kernel_rfl) ?_
   refine Wp.block ?_
   have hs60 : On [R, itemsP NI (rowC k4 d5 M1.length o7 l.length cd8) ((M1.drop o7).take l.length)] H52 := On.shut (cs := [R, pts k4 (rowO NI true d5 M1)]) [1] [0] rfl (fun _ x => items_row (by first | rfl | omega | (simp only [List.length_nil]; omega) | (simp; done) | (simp; omega)) (by first | rfl | omega | (simp only [List.length_nil]; omega) | (simp; done) | (simp; omega)) (fun h => by have := hc10 h; first | rfl | omega | (simp only [List.length_nil]; omega) | (simp; done) | (simp; omega)) (rfl) x) hs53
   refine Wp.loop (T := Go.Lg.Heap × Int × C × List Int) (fun (t : Go.Lg.Heap × Int × C × List Int) => match t with | (H62, j, cv, l2) => ((20 - j).toNat : Nat)) (fun (t : Go.Lg.Heap × Int × C × List Int) => match t with | (H62, j, cv, l2) => ([(0, .y (.one (cv))), (1, xi kk), (5, xi j)] : Env)) (fun (t : Go.Lg.Heap × Int × C × List Int) => match t with | (H62, j, cv, l2) => (H62 : Go.Lg.Heap))
     (fun (t : Go.Lg.Heap × Int × C × List Int) => match t with | (H62, j, cv, l2) => (On [R, itemsP NI cv l2] H62 ∧ (0 ≤ j) ∧ (j ≤ 20) ∧ ((l2.length : Int) ≤ 17592186043904 + j) : Prop)) (H52, 0, (rowC k4 d5 M1.length o7 l.length cd8), ((M1.drop o7).take l.length)) (by kernel_rfl) (⟨(On.pick [0, 1] [] rfl hs60), by omega, by omega, by rw [List.length_take, List.length_drop]; omega⟩) ?_
   rintro ⟨H62, j, cv, l2⟩ ⟨hs63, k1, k2, k3⟩
   show Wp _ _ _ _ [(0, .y (.one (cv))), (1, xi kk), (5, xi j)] H62 _
   refine Wp.seq ?_
   by_cases c64 : (j : Int) < 20
   ·
    refine Wp.regionSeq [(1, xb true, H62)] [(0, .y (.one (cv))), (1, xi kk), (5, xi j), (18, xb true)] H62
      (cast (And.intro (ob_raw (P := pg) (A := an) (vals := [xi j, xi 20]) (H := H62) (op := .binOp .lss 3 (.tmp 0) (.tmp 1) 3) (ty := 0) (r := xb (decide ((j : Int) < 20))) (v := xb true) (by kernel_rfl) (congrArg (fun z => xb z) (decide_eq_true (by omega)))) trivial) (by kernel_rfl)) (by kernel_rfl) ?_
    refine Wp.condT (by kernel_rfl) ?_
    refine Wp.skip ?_
    refine Wp.seq ?_
    refine Wp.block ?_
    obtain ⟨rfl, hl67, hs65⟩ | ⟨k68, d69, L70, o71, cd72, rfl, ho73, hc74, hl75, hs66⟩ := items_open hs63 1 rfl
    ·
     have hl67n : (l2.length : Int) = 0 := by rw [hl67]; rfl
     obtain ⟨n76, hn76⟩ : ∃ n, n = List.length (H62 : Go.Lg.Heap) := ⟨_, rfl⟩
     have hlfz77 : ([(-kk - 880000)].length : Int) = 1 := by { first | rfl | omega | (simp only [List.length_nil]; omega) | (simp; done) | (simp; omega) }
     refine Wp.regionK [(2, xi (-kk - 880000), H62), (4, .y (.one (rowC n76 0 ([(-kk - 880000)] : List Int).length 0 (([(-kk - 880000)] : List Int).length) false)), (H62 ++ [rowO NI true 0 ([(-kk - 880000)] : List Int)]))] [(0, .y (.one (rowC n76 0 ([(-kk - 880000)] : List Int).length 0 (([(-kk - 880000)] : List Int).length) false))), (1, xi kk), (5, xi j)] (H62 ++ [rowO NI true 0 ([(-kk - 880000)] : List Int)])
       (cast (And.intro (ob_raw (P := pg) (A := an) (vals := [xi (-880000), xi kk]) (H := H62) (op := .binOp .sub 3 (.tmp 0) (.tmp 1) 3) (ty := 0) (r := xi (IntKind.wrap .i64 ((-880000) - kk))) (v := xi (-kk - 880000)) (by kernel_rfl) (congrArg (fun z => xi z) ((wrap64 (by omega)).trans (by omega)))) (And.intro (or_append_new (P := pg) (A := an) (H := H62) (s := NI) (t := 22) (u := 22) (el := 3) (by_ := 8) (z := [vi 0]) (ty := 0) (b' := false) (nil' := true) (pu := true) (puy := true) (m := 1) (n' := ([(-kk - 880000)] : List Int).length) (k := n76) (nl := 0) (l := ([] : List Int)) (lm := ([(-kk - 880000)])) (l' := ([(-kk - 880000)] : List Int)) (y := .sl false false true [vi (-kk - 880000)] 1) hn76 (by first | rfl | omega | (simp only [List.length_nil]; omega) | (simp; done) | (simp; omega)) (by kernel_rfl) (slCells_slO (H := H62) (s := NI) (b := false) (nil := false) (capd := true) (l := [(-kk - 880000)]) (n := 1) (by first | rfl | omega | (simp only [List.length_nil]; omega) | (simp; done) | (simp; omega))) (by kernel_rfl) (by kernel_rfl) (by kernel_rfl) (by kernel_rfl) (by kernel_rfl) (by kernel_rfl) (by kernel_rfl) (by first | rfl | omega | (simp only [List.length_nil]; omega) | (simp; done) | (simp; omega)) (by first | rfl | omega | (simp only [List.length_nil]; omega) | (simp; done) | (simp; omega)) (by omega) (by omega) (List.nil_append _) (by first | rfl | omega | (simp only [List.length_append, List.length_nil]; omega) | (simp; done) | (simp; omega))) trivial)) (by kernel_rfl)) (by kernel_rfl) ?_
     refine Wp.gen (cs := [R, pts n76 (rowO NI true 0 ([(-kk - 880000)] : List Int))]) (On.new' hn76 (rowO NI true 0 ([(-kk - 880000)] : List Int)) hs65) ?_
     intro H79 hs80
     refine Wp.skip ?_
     refine Wp.region [(1, xi (j + 1), H79)] [(0, .y (.one (rowC n76 0 ([(-kk - 880000)] : List Int).length 0 (([(-kk - 880000)] : List Int).length) false))), (1, xi kk), (5, xi (j + 1))] H79
       (cast (And.intro (ob_raw (P := pg) (A := an) (vals := [xi j, xi 1]) (H := H79) (op := .binOp .add 3 (.tmp 0) (.tmp 1) 3) (ty := 0) (r := xi (IntKind.wrap .i64 (j + 1))) (v := xi (j + 1)) (by kernel_rfl) (congrArg (fun z => xi z) ((wrap64 (by omega)).trans (by omega)))) trivial) (by kernel_rfl)) (by kernel_rfl) ?_
     have hs81 : On [R, itemsP NI (rowC n76 0 ([(-kk - 880000)] : List Int).length 0 (([(-kk - 880000)] : List Int).length) false) ([(-kk - 880000)] : List Int)] H79 := On.shut (cs := [R, pts n76 (rowO NI true 0 ([(-kk - 880000)] : List Int))]) [1] [0] rfl (fun _ x => items_row (by first | rfl | omega | (simp only [List.length_nil]; omega) | (simp; done) | (simp; omega)) (by first | rfl | omega | (simp only [List.length_nil]; omega) | (simp; done) | (simp; omega)) (fun _ => by first | rfl | omega | (simp only [List.length_nil]; omega) | (simp; done) | (simp; omega)) (dt0 rfl (Nat.le_refl _)) x) hs80
     exact ⟨(H79, (j + 1), (rowC n76 0 ([(-kk - 880000)] : List Int).length 0 (([(-kk - 880000)] : List Int).length) false), ([(-kk - 880000)] : List Int)), by kernel_rfl, (⟨(On.pick [0, 1] [] rfl hs81), by omega, by omega, by first | omega | (simp; omega)⟩), (by show (_ : Nat) < _; simp only []; omega)⟩
    ·
     rcases Bool.eq_false_or_eq_true cd72 with rfl | rfl
     ·
      obtain ⟨n82, hn82⟩ : ∃ n, n = List.length (H62 : Go.Lg.Heap) := ⟨_, rfl⟩
      have hlfz83 : ([(-kk - 880000)].length : Int) = 1 := by { first | rfl | omega | (simp only [List.length_nil]; omega) | (simp; done) | (simp; omega) }
      have hlfz85 : ((l2 ++ [(-kk - 880000)]).length : Int) = ((l2.length : Int) + 1) := by { first | rfl | omega | (simp only [List.length_nil]; omega) | (simp; done) | (simp; omega) }
      refine Wp.regionK [(2, xi (-kk - 880000), H62), (4, .y (.one (rowC n82 0 (l2 ++ [(-kk - 880000)]).length 0 ((l2 ++ [(-kk - 880000)]).length) false)), (H62 ++ [rowO NI true 0 (l2 ++ [(-kk - 880000)])]))] [(0, .y (.one (rowC n82 0 (l2 ++ [(-kk - 880000)]).length 0 ((l2 ++ [(-kk - 880000)]).length) false))), (1, xi kk), (5, xi j)] (H62 ++ [rowO NI true 0 (l2 ++ [(-kk - 880000)])])
        (cast (And.intro (ob_raw (P := pg) (A := an) (vals := [xi (-880000), xi kk]) (H := H62) (op := .binOp .sub 3 (.tmp 0) (.tmp 1) 3) (ty := 0) (r := xi (IntKind.wrap .i64 ((-880000) - kk))) (v := xi (-kk - 880000)) (by kernel_rfl) (congrArg (fun z => xi z) ((wrap64 (by omega)).trans (by omega)))) (And.intro (or_append_cap (P := pg) (A := an) (H := H62) (s := NI) (t := 22) (u := 22) (el := 3) (by_ := 8) (z := [vi 0]) (ty := 0) (pu := true) (puy := true) (id := k68) (d := d69) (o := o71) (n := l2.length) (m := 1) (l := L70) (lm := ([(-kk - 880000)])) (y := .sl false false true [vi (-kk - 880000)] 1) (n' := (l2 ++ [(-kk - 880000)]).length) (k := n82) (l' := (l2 ++ [(-kk - 880000)])) hn82 (On.at hs66 1 rfl) (slCells_slO (H := H62) (s := NI) (b := false) (nil := false) (capd := true) (l := [(-kk - 880000)]) (n := 1) (by first | rfl | omega | (simp only [List.length_nil]; omega) | (simp; done) | (simp; omega))) (by kernel_rfl) (by kernel_rfl) (by kernel_rfl) (by kernel_rfl) (by kernel_rfl) (by kernel_rfl) (by kernel_rfl) (by first | rfl | omega | (simp only [List.length_nil]; omega) | (simp; done) | (simp; omega)) (by first | rfl | omega | (simp only [List.length_nil]; omega) | (simp; done) | (simp; omega)) (by first | rfl | omega | (simp only [List.length_nil]; omega) | (simp; done) | (simp; omega)) (by omega) (by omega) (congrArg (fun z => z ++ _) (hl75)) (by first | (simp only [List.length_append]; done) | (simp only [List.length_append]; first | omega | (simp; done) | (simp; omega)))) trivial)) (by kernel_rfl)) (by kernel_rfl) ?_
      refine Wp.gen (cs := [R, pts k68 (rowO NI true d69 L70), pts n82 (rowO NI true 0 (l2 ++ [(-kk - 880000)]))]) (On.new' hn82 (rowO NI true 0 (l2 ++ [(-kk - 880000)])) hs66) ?_
      intro H88 hs89
      refine Wp.skip ?_
      refine Wp.region [(1, xi (j + 1), H88)] [(0, .y (.one (rowC n82 0 (l2 ++ [(-kk - 880000)]).length 0 ((l2 ++ [(-kk - 880000)]).length) false))), (1, xi kk), (5, xi (j + 1))] H88
        (cast (And.intro (ob_raw (P := pg) (A := an) (vals := [xi j, xi 1]) (H := H88) (op := .binOp .add 3 (.tmp 0) (.tmp 1) 3) (ty := 0) (r := xi (IntKind.wrap .i64 (j + 1))) (v := xi (j + 1)) (by kernel_rfl) (congrArg (fun z => xi z) ((wrap64 (by omega)).trans (by omega)))) trivial) (by kernel_rfl)) (by kernel_rfl) ?_
      have hs90 : On [R, pts k68 (rowO NI true d69 L70), itemsP NI (rowC n82 0 (l2 ++ [(-kk - 880000)]).length 0 ((l2 ++ [(-kk - 880000)]).length) false) (l2 ++ [(-kk - 880000)])] H88 := On.shut (cs := [R, pts k68 (rowO NI true d69 L70), pts n82 (rowO NI true 0 (l2 ++ [(-kk - 880000)]))]) [2] [0, 1] rfl (fun _ x => items_row (by first | rfl | omega | (simp only [List.length_nil]; omega) | (simp; done) | (simp; omega)) (by first | rfl | omega | (simp only [List.length_nil]; omega) | (simp; done) | (simp; omega)) (fun _ => by first | rfl | omega | (simp only [List.length_nil]; omega) | (simp; done) | (simp; omega)) (dt0 rfl (Nat.le_refl _)) x) hs89
      exact ⟨(H88, (j + 1), (rowC n82 0 (l2 ++ [(-kk - 880000)]).length 0 ((l2 ++ [(-kk - 880000)]).length) false), (l2 ++ [(-kk - 880000)])), by kernel_rfl, (⟨(On.pick [0, 2] [1] rfl hs90), by omega, by omega, by first | omega | (simp; omega)⟩), (by show (_ : Nat) < _; simp only []; omega)⟩
     ·
      have hc74z := hc74 rfl
      have hlfz91 : ([(-kk - 880000)].length : Int) = 1 := by { first | rfl | omega | (simp only [List.length_nil]; omega) | (simp; done) | (simp; omega) }
      have hlfz93 : ((l2 ++ [(-kk - 880000)]).length : Int) = ((l2.length : Int) + 1) := by { first | rfl | omega | (simp only [List.length_nil]; omega) | (simp; done) | (simp; omega) }
      refine Wp.regionK [(2, xi (-kk - 880000), H62), (4, .y (.one (rowC k68 (d69 + o71) (l2 ++ [(-kk - 880000)]).length 0 ((l2 ++ [(-kk - 880000)]).length) false)), (List.set (α := O) H62 k68 (rowO NI true (d69 + o71) (l2 ++ [(-kk - 880000)]))))] [(0, .y (.one (rowC k68 (d69 + o71) (l2 ++ [(-kk - 880000)]).length 0 ((l2 ++ [(-kk - 880000)]).length) false))), (1, xi kk), (5, xi j)] (List.set (α := O) H62 k68 (rowO NI true (d69 + o71) (l2 ++ [(-kk - 880000)])))
        (cast (And.intro (ob_raw (P := pg) (A := an) (vals := [xi (-880000), xi kk]) (H := H62) (op := .binOp .sub 3 (.tmp 0) (.tmp 1) 3) (ty := 0) (r := xi (IntKind.wrap .i64 ((-880000) - kk))) (v := xi (-kk - 880000)) (by kernel_rfl) (congrArg (fun z => xi z) ((wrap64 (by omega)).trans (by omega)))) (And.intro (or_append (P := pg) (A := an) (H := H62) (s := NI) (t := 22) (u := 22) (el := 3) (by_ := 8) (z := [vi 0]) (ty := 0) (pu := true) (puy := true) (id := k68) (d := d69) (o := o71) (n := l2.length) (m := 1) (l := L70) (lm := ([(-kk - 880000)])) (y := .sl false false true [vi (-kk - 880000)] 1) (d' := (d69 + o71)) (l' := (l2 ++ [(-kk - 880000)])) (n' := (l2 ++ [(-kk - 880000)]).length) (On.at hs66 1 rfl) (slCells_slO (H := H62) (s := NI) (b := false) (nil := false) (capd := true) (l := [(-kk - 880000)]) (n := 1) (by first | rfl | omega | (simp only [List.length_nil]; omega) | (simp; done) | (simp; omega))) (by kernel_rfl) (by kernel_rfl) (by kernel_rfl) (by kernel_rfl) (by kernel_rfl) (by kernel_rfl) (by kernel_rfl) (by first | rfl | omega | (simp only [List.length_nil]; omega) | (simp; done) | (simp; omega)) (by first | rfl | omega | (simp only [List.length_nil]; omega) | (simp; done) | (simp; omega)) (by first | rfl | omega | (simp only [List.length_nil]; omega) | (simp; done) | (simp; omega)) (by omega) (by omega) (by omega) (congrArg (fun z => z ++ ([(-kk - 880000)])) (show L70.drop o71 = l2 from (List.take_of_length_le (by rw [List.length_drop]; omega)).symm.trans (hl75))) (by first | (simp only [List.length_append]; done) | (simp only [List.length_append]; first | omega | (simp; done) | (simp; omega)))) trivial)) (by kernel_rfl)) (by kernel_rfl) ?_
      refine Wp.gen (cs := [R, pts k68 (rowO NI true (d69 + o71) (l2 ++ [(-kk - 880000)]))]) (On.put (rowO NI true (d69 + o71) (l2 ++ [(-kk - 880000)])) hs66 1 rfl) ?_
      intro H96 hs97
      refine Wp.skip ?_
      refine Wp.region [(1, xi (j + 1), H96)] [(0, .y (.one (rowC k68 (d69 + o71) (l2 ++ [(-kk - 880000)]).length 0 ((l2 ++ [(-kk - 880000)]).length) false))), (1, xi kk), (5, xi (j + 1))] H96
        (cast (And.intro (ob_raw (P := pg) (A := an) (vals := [xi j, xi 1]) (H := H96) (op := .binOp .add 3 (.tmp 0) (.tmp 1) 3) (ty := 0) (r := xi (IntKind.wrap .i64 (j + 1))) (v := xi (j + 1)) (by kernel_rfl) (congrArg (fun z => xi z) ((wrap64 (by omega)).trans (by omega)))) trivial) (by kernel_rfl)) (by kernel_rfl) ?_
      have hs98 : On [R, itemsP NI (rowC k68 (d69 + o71) (l2 ++ [(-kk - 880000)]).length 0 ((l2 ++ [(-kk - 880000)]).length) false) (l2 ++ [(-kk - 880000)])] H96 := On.shut (cs := [R, pts k68 (rowO NI true (d69 + o71) (l2 ++ [(-kk - 880000)]))]) [1] [0] rfl (fun _ x => items_row (by first | rfl | omega | (simp only [List.length_nil]; omega) | (simp; done) | (simp; omega)) (by first | rfl | omega | (simp only [List.length_nil]; omega) | (simp; done) | (simp; omega)) (fun _ => by first | rfl | omega | (simp only [List.length_nil]; omega) | (simp; done) | (simp; omega)) (dt0 rfl (Nat.le_refl _)) x) hs97
      exact ⟨(H96, (j + 1), (rowC k68 (d69 + o71) (l2 ++ [(-kk - 880000)]).length 0 ((l2 ++ [(-kk - 880000)]).length) false), (l2 ++ [(-kk - 880000)])), by kernel_rfl, (⟨(On.pick [0, 1] [] rfl hs98), by omega, by omega, by first | omega | (simp; omega)⟩), (by show (_ : Nat) < _; simp only []; omega)⟩
   ·
    refine Wp.regionSeq [(1, xb false, H62)] [(0, .y (.one (cv))), (1, xi kk), (5, xi j), (18, xb false)] H62
      (cast (And.intro (ob_raw (P := pg) (A := an) (vals := [xi j, xi 20]) (H := H62) (op := .binOp .lss 3 (.tmp 0) (.tmp 1) 3) (ty := 0) (r := xb (decide ((j : Int) < 20))) (v := xb false) (by kernel_rfl) (congrArg (fun z => xb z) (decide_eq_false (by omega)))) trivial) (by kernel_rfl)) (by kernel_rfl) ?_
    refine Wp.condF (by kernel_rfl) ?_
    refine Wp.exit ?_
    refine Eq.mpr (if_pos rfl) ?_
    refine ⟨Or.inl rfl, [], (by kernel_rfl), ?_⟩
    exact ⟨rfl, (On.pick [0] [1] rfl hs63)⟩
end Go.Proofs.Ytpoaaggjgmdpdaa
