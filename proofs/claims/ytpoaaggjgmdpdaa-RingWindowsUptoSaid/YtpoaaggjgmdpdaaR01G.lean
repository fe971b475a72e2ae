/-
  Ring: the functions of a ring. (Printed by sx/r01s.py.)
-/
import Derived.Test.YtpoaaggjgmdpdaaR01F
namespace Go.Proofs.Ytpoaaggjgmdpdaa
open Go.Lg
set_option linter.unusedVariables false
set_option maxRecDepth 100000
set_option maxHeartbeats 8000000
set_option linter.unusedSimpArgs false
theorem own_row (R : HP) (H : Go.Lg.Heap) (k d o : Nat) (capd : Bool) (L l : List Int) (hs : On [R, pts k (rowO NI true d L)] H) (ho : o + l.length ≤ L.length) (hl : (L.drop o).take l.length = l) (hm : (l.length : Int) ≤ 65536) : ∃ rs H', Runs pg an 28 [.one (rowC k d L.length o l.length capd)] H rs H' ∧ ∃ k', rs = [.one (rowC k' 0 l.length 0 l.length true)] ∧ On [R, pts k (rowO NI true d L), pts k' (rowO NI true 0 l)] H' := by
 refine Runs.of (fn := Try.f28) Try.func28 rfl (by kernel_rfl) [(0, .y (.one (rowC k d L.length o l.length capd)))] (by kernel_rfl) ?_
 refine Wp.regionSeq [] [(0, .y (.one (rowC k d L.length o l.length capd)))] H
   (cast trivial (by kernel_rfl)) (by kernel_rfl) ?_
 obtain ⟨n1, hn1⟩ : ∃ n, n = List.length (H : Go.Lg.Heap) := ⟨_, rfl⟩
 obtain ⟨zs2, hzs2, hlzs2⟩ : ∃ zs : List Int, zs = List.replicate ((l.length : Int) : Int).toNat (0) ∧ (zs.length : Int) = (l.length : Int) := ⟨_, rfl, by first | (simp; done) | (simp; omega) | omega⟩
 refine Wp.regionSeq [(1, xi (l.length : Int), H), (2, .y (.one (rowC n1 0 zs2.length 0 zs2.length false)), (H ++ [rowO NI true 0 zs2]))] [(0, .y (.one (rowC k d L.length o l.length capd))), (3, .y (.one (rowC n1 0 zs2.length 0 zs2.length false)))] (H ++ [rowO NI true 0 zs2])
   (cast (And.intro (or_len (P := pg) (A := an) (H := H) (s := NI) (t := 22) (ty := 0) (pu := true) (capd := capd) (id := k) (d := d) (o := o) (n := l.length) (l := L) (e := (l.length : Int)) (On.at hs 1 rfl) (by kernel_rfl) (by first | rfl | omega | (simp only [List.length_nil]; omega) | (simp; done) | (simp; omega))) (And.intro (or_make (P := pg) (A := an) (H := H) (s := NI) (t := 22) (el := 3) (ty := 0) (by_ := 8) (k := n1) (n' := zs2.length) (pu := true) (z := 0) (zs := zs2) (n := (l.length : Int)) (c := (l.length : Int)) hn1 (by kernel_rfl) hzs2 (by kernel_rfl) (by kernel_rfl) (by kernel_rfl) (by kernel_rfl) (by kernel_rfl) (by omega) (by omega) (by omega) (by omega) (by omega)) trivial)) (by kernel_rfl)) (by kernel_rfl) ?_
 refine Wp.gen (cs := [R, pts k (rowO NI true d L), pts n1 (rowO NI true 0 zs2)]) (On.new' hn1 (rowO NI true 0 zs2) hs) ?_
 intro H3 hs4
 refine Wp.regionSeq [(2, xi (l.length : Int), (List.set (α := O) H3 n1 (rowO NI true 0 l)))] [(0, .y (.one (rowC k d L.length o l.length capd))), (3, .y (.one (rowC n1 0 zs2.length 0 zs2.length false)))] (List.set (α := O) H3 n1 (rowO NI true 0 l))
   (cast (And.intro (or_copy (P := pg) (A := an) (H := H3) (s := NI) (t := 22) (u := 22) (el := 3) (ty := 0) (pu := true) (puy := true) (capd := false) (id := n1) (n := l.length) (d := 0) (nn := zs2.length) (l := zs2) (lm := l) (y := rowC k d L.length o l.length capd) (m := (l.length : Int)) rfl (On.at hs4 2 rfl) (slCells_rowO (H := H3) (s := NI) (pu := true) (capd := capd) (id := k) (d := d) (o := o) (n := l.length) (l := L) (m := l) (On.at hs4 1 rfl) (by first | rfl | omega | (simp only [List.length_nil]; omega) | (simp; done) | (simp; omega)) (hl)) (by kernel_rfl) (by kernel_rfl) (by kernel_rfl) (by first | rfl | omega | (simp only [List.length_nil]; omega) | (simp; done) | (simp; omega)) (by first | rfl | omega | (simp only [List.length_nil]; omega) | (simp; done) | (simp; omega)) (by first | rfl | omega | (simp only [List.length_nil]; omega) | (simp; done) | (simp; omega)) (by first | rfl | omega | (simp only [List.length_nil]; omega) | (simp; done) | (simp; omega))) trivial) (by kernel_rfl)) (by kernel_rfl) ?_
 rw [show zs2.length = l.length from by first | rfl | omega | (simp only [List.length_nil]; omega) | (simp; done) | (simp; omega)]
 refine Wp.gen (cs := [R, pts k (rowO NI true d L), pts n1 (rowO NI true 0 l)]) (On.put (rowO NI true 0 l) hs4 2 rfl) ?_
 intro H5 hs6
 refine Wp.regionSeq [(2, xi (l.length : Int), H5), (4, xi (l.length : Int), H5), (5, .y (.one (rowC n1 0 l.length 0 l.length true)), H5)] [(2, .y (.one (rowC n1 0 l.length 0 l.length true)))] H5
   (cast (And.intro (or_len (P := pg) (A := an) (H := H5) (s := NI) (t := 22) (ty := 0) (pu := true) (capd := capd) (id := k) (d := d) (o := o) (n := l.length) (l := L) (e := (l.length : Int)) (On.at hs6 1 rfl) (by kernel_rfl) (by first | rfl | omega | (simp only [List.length_nil]; omega) | (simp; done) | (simp; omega))) (And.intro (or_len (P := pg) (A := an) (H := H5) (s := NI) (t := 22) (ty := 0) (pu := true) (capd := capd) (id := k) (d := d) (o := o) (n := l.length) (l := L) (e := (l.length : Int)) (On.at hs6 1 rfl) (by kernel_rfl) (by first | rfl | omega | (simp only [List.length_nil]; omega) | (simp; done) | (simp; omega))) (And.intro (or_slicec (P := pg) (A := an) (H := H5) (s := NI) (t := 22) (el := 3) (ty := 0) (pu := true) (id := n1) (d := 0) (o := 0) (n := l.length) (l := l) (capd := false) (n' := l.length) (h := (l.length : Int)) (On.at hs6 2 rfl) (by kernel_rfl) (by kernel_rfl) (by omega) (by first | rfl | omega | (simp only [List.length_nil]; omega) | (simp; done) | (simp; omega)) (by first | rfl | omega | (simp only [List.length_nil]; omega) | (simp; done) | (simp; omega)) (by first | rfl | omega | (simp only [List.length_nil]; omega) | (simp; done) | (simp; omega))) trivial))) (by kernel_rfl)) (by kernel_rfl) ?_
 refine Wp.ret ?_
 refine ⟨Or.inr rfl, [.one (rowC n1 0 l.length 0 l.length true)], (by kernel_rfl), ?_⟩
 exact ⟨n1, rfl, (On.pick [0, 1, 2] [] rfl hs6)⟩
theorem own_nil (R : HP) (H : Go.Lg.Heap) (hs : On [R] H) : ∃ rs H', Runs pg an 28 [.one (.sl false true true [] 0)] H rs H' ∧ ∃ k', rs = [.one (rowC k' 0 ([] : List Int).length 0 ([] : List Int).length true)] ∧ On [R, pts k' (rowO NI true 0 ([] : List Int))] H' := by
 refine Runs.of (fn := Try.f28) Try.func28 rfl (by kernel_rfl) [(0, .y (.one (.sl false true true [] 0)))] (by kernel_rfl) ?_
 refine Wp.regionSeq [] [(0, .y (.one (.sl false true true [] 0)))] H
   (cast trivial (by kernel_rfl)) (by kernel_rfl) ?_
 obtain ⟨n1, hn1⟩ : ∃ n, n = List.length (H : Go.Lg.Heap) := ⟨_, rfl⟩
 obtain ⟨zs2, hzs2, hlzs2⟩ : ∃ zs : List Int, zs = List.replicate (0 : Int).toNat (0) ∧ (zs.length : Int) = 0 := ⟨_, rfl, by first | (simp; done) | (simp; omega) | omega⟩
 refine Wp.regionSeq [(2, .y (.one (rowC n1 0 zs2.length 0 zs2.length false)), (H ++ [rowO NI true 0 zs2]))] [(0, .y (.one (.sl false true true [] 0))), (3, .y (.one (rowC n1 0 zs2.length 0 zs2.length false)))] (H ++ [rowO NI true 0 zs2])
   (cast (And.intro (or_make (P := pg) (A := an) (H := H) (s := NI) (t := 22) (el := 3) (ty := 0) (by_ := 8) (k := n1) (n' := zs2.length) (pu := true) (z := 0) (zs := zs2) (n := 0) (c := 0) hn1 (by kernel_rfl) hzs2 (by kernel_rfl) (by kernel_rfl) (by kernel_rfl) (by kernel_rfl) (by kernel_rfl) (by omega) (by omega) (by omega) (by omega) (by omega)) trivial) (by kernel_rfl)) (by kernel_rfl) ?_
 refine Wp.gen (cs := [R, pts n1 (rowO NI true 0 zs2)]) (On.new' hn1 (rowO NI true 0 zs2) hs) ?_
 intro H3 hs4
 refine Wp.regionSeq [(2, xi 0, (List.set (α := O) H3 n1 (rowO NI true 0 ([] : List Int))))] [(0, .y (.one (.sl false true true [] 0))), (3, .y (.one (rowC n1 0 zs2.length 0 zs2.length false)))] (List.set (α := O) H3 n1 (rowO NI true 0 ([] : List Int)))
   (cast (And.intro (or_copy (P := pg) (A := an) (H := H3) (s := NI) (t := 22) (u := 22) (el := 3) (ty := 0) (pu := true) (puy := true) (capd := false) (id := n1) (n := 0) (d := 0) (nn := zs2.length) (l := zs2) (lm := ([] : List Int)) (y := .sl false true true [] 0) (m := 0) rfl (On.at hs4 1 rfl) (slCells_slO (H := H3) (s := NI) (b := false) (nil := true) (capd := true) (l := ([] : List Int)) (n := 0) (by first | rfl | omega | (simp only [List.length_nil]; omega) | (simp; done) | (simp; omega))) (by kernel_rfl) (by kernel_rfl) (by kernel_rfl) (by first | rfl | omega | (simp only [List.length_nil]; omega) | (simp; done) | (simp; omega)) (by first | rfl | omega | (simp only [List.length_nil]; omega) | (simp; done) | (simp; omega)) (by first | rfl | omega | (simp only [List.length_nil]; omega) | (simp; done) | (simp; omega)) (by first | rfl | omega | (simp only [List.length_nil]; omega) | (simp; done) | (simp; omega))) trivial) (by kernel_rfl)) (by kernel_rfl) ?_
 rw [show zs2.length = ([] : List Int).length from by first | rfl | omega | (simp only [List.length_nil]; omega) | (simp; done) | (simp; omega)]
 refine Wp.gen (cs := [R, pts n1 (rowO NI true 0 ([] : List Int))]) (On.put (rowO NI true 0 ([] : List Int)) hs4 1 rfl) ?_
 intro H5 hs6
 refine Wp.regionSeq [(5, .y (.one (rowC n1 0 ([] : List Int).length 0 (([] : List Int).length) true)), H5)] [(2, .y (.one (rowC n1 0 ([] : List Int).length 0 (([] : List Int).length) true)))] H5
   (cast (And.intro (or_slicec (P := pg) (A := an) (H := H5) (s := NI) (t := 22) (el := 3) (ty := 0) (pu := true) (id := n1) (d := 0) (o := 0) (n := (([] : List Int).length)) (l := ([] : List Int)) (capd := false) (n' := (([] : List Int).length)) (h := 0) (On.at hs6 1 rfl) (by kernel_rfl) (by kernel_rfl) (by omega) (by first | rfl | omega | (simp only [List.length_nil]; omega) | (simp; done) | (simp; omega)) (by first | rfl | omega | (simp only [List.length_nil]; omega) | (simp; done) | (simp; omega)) (by first | rfl | omega | (simp only [List.length_nil]; omega) | (simp; done) | (simp; omega))) trivial) (by kernel_rfl)) (by kernel_rfl) ?_
 refine Wp.ret ?_
 refine ⟨Or.inr rfl, [.one (rowC n1 0 ([] : List Int).length 0 (([] : List Int).length) true)], (by kernel_rfl), ?_⟩
 exact ⟨n1, rfl, (On.pick [0, 1] [] rfl hs6)⟩
theorem new_ok (R : HP) (H : Go.Lg.Heap) (room : Int) (hs : On [R] H) (h1 : 1 ≤ room) (h2 : room ≤ 65536) : ∃ rs H', Runs pg an 8 [.one (vi room)] H rs H' ∧ ∃ q, rs = [.one (.ptr q 0), .one (vi 0)] ∧ On [R, ringP NI q room ([] : List Int)] H' := by
 refine Runs.of (fn := Try.f8) Try.func8 rfl (by kernel_rfl) [(0, xi room)] (by kernel_rfl) ?_
 refine Wp.regionSeq [] [(0, xi room)] H
   (cast trivial (by kernel_rfl)) (by kernel_rfl) ?_
 refine Wp.seq ?_
 refine Wp.regionSeq [(1, xb false, H), (4, xb false, H)] [(0, xi room), (9, xb false)] H
   (cast (And.intro (ob_raw (P := pg) (A := an) (vals := [xi room, xi 1]) (H := H) (op := .binOp .lss 3 (.tmp 0) (.tmp 1) 3) (ty := 0) (r := xb (decide ((room : Int) < 1))) (v := xb false) (by kernel_rfl) (congrArg (fun z => xb z) (decide_eq_false (by omega)))) (And.intro (ob_raw (P := pg) (A := an) (vals := [xi room, xi 65536]) (H := H) (op := .binOp .gtr 3 (.tmp 0) (.tmp 1) 3) (ty := 0) (r := xb (decide ((room : Int) > 65536))) (v := xb false) (by kernel_rfl) (congrArg (fun z => xb z) (decide_eq_false (by omega)))) trivial)) (by kernel_rfl)) (by kernel_rfl) ?_
 refine Wp.condF (by kernel_rfl) ?_
 refine Wp.skip ?_
 obtain ⟨n1, hn1⟩ : ∃ n, n = List.length (H : Go.Lg.Heap) := ⟨_, rfl⟩
 refine Wp.regionSeq [(2, .y (.one (.ptr n1 0)), (H ++ [.obj [vi room, .sl false true true [] 0]]))] [(2, .y (.one (.ptr n1 0))), (3, xi 0)] (H ++ [.obj [vi room, .sl false true true [] 0]])
   (cast (And.intro (ob_box (P := pg) (A := an) (H := H) (t := 57) (ty := 0) (n := n1) (v := .agg [vi room, .sl false true true [] 0]) (cs := [vi room, .sl false true true [] 0]) hn1 (by kernel_rfl) (by kernel_rfl) (by kernel_rfl)) trivial) (by kernel_rfl)) (by kernel_rfl) ?_
 refine Wp.gen (cs := [R, pts n1 (.obj [vi room, .sl false true true [] 0])]) (On.new' hn1 (.obj [vi room, .sl false true true [] 0]) hs) ?_
 intro H2 hs3
 refine Wp.ret ?_
 refine ⟨Or.inr rfl, [.one (.ptr n1 0), .one (vi 0)], (by kernel_rfl), ?_⟩
 have hs4 : On [R, ringP NI n1 room ([] : List Int)] H2 := On.shut (cs := [R, pts n1 (.obj [vi room, .sl false true true [] 0])]) [1] [0] rfl (fun _ x => ring_nil' (rfl) ⟨by omega, by omega⟩ x) hs3
 exact ⟨n1, rfl, (On.pick [0, 1] [] rfl hs4)⟩
theorem new_low (R : HP) (H : Go.Lg.Heap) (room : Int) (hs : On [R] H) (h1 : room < 1) : ∃ rs H', Runs pg an 8 [.one (vi room)] H rs H' ∧ rs = [.one (.sc (.pointer none)), .one (vi 1)] ∧ On [R] H' := by
 refine Runs.of (fn := Try.f8) Try.func8 rfl (by kernel_rfl) [(0, xi room)] (by kernel_rfl) ?_
 refine Wp.regionSeq [] [(0, xi room)] H
   (cast trivial (by kernel_rfl)) (by kernel_rfl) ?_
 refine Wp.seq ?_
 refine Wp.regionSeq [(1, xb true, H)] [(0, xi room), (9, xb true)] H
   (cast (And.intro (ob_raw (P := pg) (A := an) (vals := [xi room, xi 1]) (H := H) (op := .binOp .lss 3 (.tmp 0) (.tmp 1) 3) (ty := 0) (r := xb (decide ((room : Int) < 1))) (v := xb true) (by kernel_rfl) (congrArg (fun z => xb z) (decide_eq_true (by omega)))) trivial) (by kernel_rfl)) (by kernel_rfl) ?_
 refine Wp.condT (by kernel_rfl) ?_
 refine Wp.regionSeq [] [(2, .y (.one (.sc (.pointer none)))), (3, xi 1)] H
   (cast trivial (by kernel_rfl)) (by kernel_rfl) ?_
 refine Wp.ret ?_
 refine ⟨Or.inr rfl, [.one (.sc (.pointer none)), .one (vi 1)], (by kernel_rfl), ?_⟩
 exact ⟨rfl, (On.pick [0] [] rfl hs)⟩
theorem new_high (R : HP) (H : Go.Lg.Heap) (room : Int) (hs : On [R] H) (h1 : 65536 < room) : ∃ rs H', Runs pg an 8 [.one (vi room)] H rs H' ∧ rs = [.one (.sc (.pointer none)), .one (vi 1)] ∧ On [R] H' := by
 refine Runs.of (fn := Try.f8) Try.func8 rfl (by kernel_rfl) [(0, xi room)] (by kernel_rfl) ?_
 refine Wp.regionSeq [] [(0, xi room)] H
   (cast trivial (by kernel_rfl)) (by kernel_rfl) ?_
 refine Wp.seq ?_
 refine Wp.regionSeq [(1, xb false, H), (4, xb true, H)] [(0, xi room), (9, xb true)] H
   (cast (And.intro (ob_raw (P := pg) (A := an) (vals := [xi room, xi 1]) (H := H) (op := .binOp .lss 3 (.tmp 0) (.tmp 1) 3) (ty := 0) (r := xb (decide ((room : Int) < 1))) (v := xb false) (by kernel_rfl) (congrArg (fun z => xb z) (decide_eq_false (by omega)))) (And.intro (ob_raw (P := pg) (A := an) (vals := [xi room, xi 65536]) (H := H) (op := .binOp .gtr 3 (.tmp 0) (.tmp 1) 3) (ty := 0) (r := xb (decide ((room : Int) > 65536))) (v := xb true) (by kernel_rfl) (congrArg (fun z => xb z) (decide_eq_true (by omega)))) trivial)) (by kernel_rfl)) (by kernel_rfl) ?_
 refine Wp.condT (by kernel_rfl) ?_
 refine Wp.regionSeq [] [(2, .y (.one (.sc (.pointer none)))), (3, xi 1)] H
   (cast trivial (by kernel_rfl)) (by kernel_rfl) ?_
 refine Wp.ret ?_
 refine ⟨Or.inr rfl, [.one (.sc (.pointer none)), .one (vi 1)], (by kernel_rfl), ?_⟩
 exact ⟨rfl, (On.pick [0] [] rfl hs)⟩
theorem len_ok (R : HP) (H : Go.Lg.Heap) (q : Nat) (room : Int) (l : List Int) (hs : On [R, ringP NI q room l] H) : ∃ rs H', Runs pg an 13 [.one (.ptr q 0)] H rs H' ∧ rs = [.one (vi (l.length))] ∧ On [R, ringP NI q room l] H' := by
 obtain ⟨⟨hb3a, hb3b, hb3c⟩, ⟨hl4, hs1⟩ | ⟨k5, d6, L7, o8, cd9, ho10, hc11, hl12, hs2⟩⟩ := ring_open hs 1 rfl
 ·
  have hl4n : (l.length : Int) = 0 := by rw [hl4]; rfl
  refine Runs.of (fn := Try.f13) Try.func13 rfl (by kernel_rfl) [(0, .y (.one (.ptr q 0)))] (by kernel_rfl) ?_
  refine Wp.regionSeq [] [(0, .y (.one (.ptr q 0)))] H
    (cast trivial (by kernel_rfl)) (by kernel_rfl) ?_
  refine Wp.seq ?_
  have hcall13 : Runs pg an 27 [.one (.ptr q 0)] H [.one (vb true)] H := by
   refine runs_of ?_
   refine Runs.of (fn := Try.f27) Try.func27 rfl (by kernel_rfl) [(0, .y (.one (.ptr q 0)))] (by kernel_rfl) ?_
   refine Wp.regionSeq [] [(0, .y (.one (.ptr q 0)))] H
     (cast trivial (by kernel_rfl)) (by kernel_rfl) ?_
   refine Wp.regionSeq [(6, xi room, H), (7, xb true, H)] [(2, xb true)] H
     (cast (And.intro (ob_load_ptr (P := pg) (A := an) (H := H) (t := 3) (ty := 0) (id := q) (off := 0) (n := 1) (cs := [vi room, .sl false true true [] 0]) (cs' := [vi room]) (v := .one (vi room)) (On.at hs1 1 rfl) (by kernel_rfl) (by kernel_rfl) (by kernel_rfl) (by kernel_rfl)) (And.intro (ob_raw (P := pg) (A := an) (vals := [xi room, xi 0]) (H := H) (op := .binOp .gtr 3 (.tmp 0) (.tmp 1) 3) (ty := 0) (r := xb (decide ((room : Int) > 0))) (v := xb true) (by kernel_rfl) (congrArg (fun z => xb z) (decide_eq_true (by omega)))) trivial)) (by kernel_rfl)) (by kernel_rfl) ?_
   refine Wp.ret ?_
   exact ⟨Or.inr rfl, [.one (vb true)], (by kernel_rfl), ⟨rfl, rfl⟩⟩
  refine Wp.regionSeq [(1, xb true, H)] [(0, .y (.one (.ptr q 0))), (5, xb false)] H
    (cast (And.intro (ob_call (P := pg) (A := an) (H := H) (g := 27) (vals := [.y (.one (.ptr q 0))]) (xs0 := [.one (.ptr q 0)]) (res := [.one (vb true)]) (ats := #[]) (ty := 0) (v := xb true) (H' := H) [.tmp 0] (by kernel_rfl) (by kernel_rfl) hcall13 (by kernel_rfl)) trivial) (by kernel_rfl)) (by kernel_rfl) ?_
  refine Wp.condF (by kernel_rfl) ?_
  refine Wp.skip ?_
  refine Wp.regionSeq [(3, .y (.one (.sl false true true [] 0)), H)] [(2, xi 0)] H
    (cast (And.intro (ob_load_ptr (P := pg) (A := an) (H := H) (t := 22) (ty := 0) (id := q) (off := 1) (n := 1) (cs := [vi room, .sl false true true [] 0]) (cs' := [.sl false true true [] 0]) (v := .one (.sl false true true [] 0)) (On.at hs1 1 rfl) (by kernel_rfl) (by kernel_rfl) (by kernel_rfl) (by kernel_rfl)) trivial) (by kernel_rfl)) (by kernel_rfl) ?_
  refine Wp.ret ?_
  refine ⟨Or.inr rfl, [.one (vi 0)], (by kernel_rfl), ?_⟩
  have hs14 : On [R, ringP NI q room l] H := On.shut (cs := [R, pts q (.obj [vi room, .sl false true true [] 0])]) [1] [0] rfl (fun _ x => ring_nil' (hl4) ⟨by omega, by omega⟩ x) hs1
  exact ⟨congrArg (fun z : Int => [Y.one (vi z)]) (by omega), (On.pick [0, 1] [] rfl hs14)⟩
 ·
  refine Runs.of (fn := Try.f13) Try.func13 rfl (by kernel_rfl) [(0, .y (.one (.ptr q 0)))] (by kernel_rfl) ?_
  refine Wp.regionSeq [] [(0, .y (.one (.ptr q 0)))] H
    (cast trivial (by kernel_rfl)) (by kernel_rfl) ?_
  refine Wp.seq ?_
  have hcall15 : Runs pg an 27 [.one (.ptr q 0)] H [.one (vb true)] H := by
   refine runs_of ?_
   refine Runs.of (fn := Try.f27) Try.func27 rfl (by kernel_rfl) [(0, .y (.one (.ptr q 0)))] (by kernel_rfl) ?_
   refine Wp.regionSeq [] [(0, .y (.one (.ptr q 0)))] H
     (cast trivial (by kernel_rfl)) (by kernel_rfl) ?_
   refine Wp.regionSeq [(6, xi room, H), (7, xb true, H)] [(2, xb true)] H
     (cast (And.intro (ob_load_ptr (P := pg) (A := an) (H := H) (t := 3) (ty := 0) (id := q) (off := 0) (n := 1) (cs := [vi room, rowC k5 d6 L7.length o8 l.length cd9]) (cs' := [vi room]) (v := .one (vi room)) (On.at hs2 1 rfl) (by kernel_rfl) (by kernel_rfl) (by kernel_rfl) (by kernel_rfl)) (And.intro (ob_raw (P := pg) (A := an) (vals := [xi room, xi 0]) (H := H) (op := .binOp .gtr 3 (.tmp 0) (.tmp 1) 3) (ty := 0) (r := xb (decide ((room : Int) > 0))) (v := xb true) (by kernel_rfl) (congrArg (fun z => xb z) (decide_eq_true (by omega)))) trivial)) (by kernel_rfl)) (by kernel_rfl) ?_
   refine Wp.ret ?_
   exact ⟨Or.inr rfl, [.one (vb true)], (by kernel_rfl), ⟨rfl, rfl⟩⟩
  refine Wp.regionSeq [(1, xb true, H)] [(0, .y (.one (.ptr q 0))), (5, xb false)] H
    (cast (And.intro (ob_call (P := pg) (A := an) (H := H) (g := 27) (vals := [.y (.one (.ptr q 0))]) (xs0 := [.one (.ptr q 0)]) (res := [.one (vb true)]) (ats := #[]) (ty := 0) (v := xb true) (H' := H) [.tmp 0] (by kernel_rfl) (by kernel_rfl) hcall15 (by kernel_rfl)) trivial) (by kernel_rfl)) (by kernel_rfl) ?_
  refine Wp.condF (by kernel_rfl) ?_
  refine Wp.skip ?_
  refine Wp.regionSeq [(3, .y (.one (rowC k5 d6 L7.length o8 l.length cd9)), H), (4, xi (l.length : Int), H)] [(2, xi (l.length : Int))] H
    (cast (And.intro (ob_load_ptr (P := pg) (A := an) (H := H) (t := 22) (ty := 0) (id := q) (off := 1) (n := 1) (cs := [vi room, rowC k5 d6 L7.length o8 l.length cd9]) (cs' := [rowC k5 d6 L7.length o8 l.length cd9]) (v := .one (rowC k5 d6 L7.length o8 l.length cd9)) (On.at hs2 1 rfl) (by kernel_rfl) (by kernel_rfl) (by kernel_rfl) (by kernel_rfl)) (And.intro (or_len (P := pg) (A := an) (H := H) (s := NI) (t := 22) (ty := 0) (pu := true) (capd := cd9) (id := k5) (d := d6) (o := o8) (n := l.length) (l := L7) (e := (l.length : Int)) (On.at hs2 2 rfl) (by kernel_rfl) (by first | rfl | omega | (simp only [List.length_nil]; omega) | (simp; done) | (simp; omega))) trivial)) (by kernel_rfl)) (by kernel_rfl) ?_
  refine Wp.ret ?_
  refine ⟨Or.inr rfl, [.one (vi (l.length : Int))], (by kernel_rfl), ?_⟩
  have hs16 : On [R, ringP NI q room l] H := On.shut (cs := [R, pts q (.obj [vi room, rowC k5 d6 L7.length o8 l.length cd9]), pts k5 (rowO NI true d6 L7)]) [1, 2] [0] rfl (fun _ x => ring_row ⟨by omega, by omega, by first | rfl | omega | (simp only [List.length_nil]; omega) | (simp; done) | (simp; omega)⟩ (by first | rfl | omega | (simp only [List.length_nil]; omega) | (simp; done) | (simp; omega)) (by first | rfl | omega | (simp only [List.length_nil]; omega) | (simp; done) | (simp; omega)) (fun h => by have := hc11 h; first | rfl | omega | (simp only [List.length_nil]; omega) | (simp; done) | (simp; omega)) (hl12) x) hs2
  exact ⟨congrArg (fun z : Int => [Y.one (vi z)]) (by omega), (On.pick [0, 1] [] rfl hs16)⟩
theorem room_ok (R : HP) (H : Go.Lg.Heap) (q : Nat) (room : Int) (l : List Int) (hs : On [R, ringP NI q room l] H) : ∃ rs H', Runs pg an 14 [.one (.ptr q 0)] H rs H' ∧ rs = [.one (vi (room - l.length))] ∧ On [R, ringP NI q room l] H' := by
 obtain ⟨⟨hb3a, hb3b, hb3c⟩, ⟨hl4, hs1⟩ | ⟨k5, d6, L7, o8, cd9, ho10, hc11, hl12, hs2⟩⟩ := ring_open hs 1 rfl
 ·
  have hl4n : (l.length : Int) = 0 := by rw [hl4]; rfl
  refine Runs.of (fn := Try.f14) Try.func14 rfl (by kernel_rfl) [(0, .y (.one (.ptr q 0)))] (by kernel_rfl) ?_
  refine Wp.regionSeq [] [(0, .y (.one (.ptr q 0)))] H
    (cast trivial (by kernel_rfl)) (by kernel_rfl) ?_
  refine Wp.seq ?_
  have hcall13 : Runs pg an 27 [.one (.ptr q 0)] H [.one (vb true)] H := by
   refine runs_of ?_
   refine Runs.of (fn := Try.f27) Try.func27 rfl (by kernel_rfl) [(0, .y (.one (.ptr q 0)))] (by kernel_rfl) ?_
   refine Wp.regionSeq [] [(0, .y (.one (.ptr q 0)))] H
     (cast trivial (by kernel_rfl)) (by kernel_rfl) ?_
   refine Wp.regionSeq [(6, xi room, H), (7, xb true, H)] [(2, xb true)] H
     (cast (And.intro (ob_load_ptr (P := pg) (A := an) (H := H) (t := 3) (ty := 0) (id := q) (off := 0) (n := 1) (cs := [vi room, .sl false true true [] 0]) (cs' := [vi room]) (v := .one (vi room)) (On.at hs1 1 rfl) (by kernel_rfl) (by kernel_rfl) (by kernel_rfl) (by kernel_rfl)) (And.intro (ob_raw (P := pg) (A := an) (vals := [xi room, xi 0]) (H := H) (op := .binOp .gtr 3 (.tmp 0) (.tmp 1) 3) (ty := 0) (r := xb (decide ((room : Int) > 0))) (v := xb true) (by kernel_rfl) (congrArg (fun z => xb z) (decide_eq_true (by omega)))) trivial)) (by kernel_rfl)) (by kernel_rfl) ?_
   refine Wp.ret ?_
   exact ⟨Or.inr rfl, [.one (vb true)], (by kernel_rfl), ⟨rfl, rfl⟩⟩
  refine Wp.regionSeq [(1, xb true, H)] [(0, .y (.one (.ptr q 0))), (5, xb false)] H
    (cast (And.intro (ob_call (P := pg) (A := an) (H := H) (g := 27) (vals := [.y (.one (.ptr q 0))]) (xs0 := [.one (.ptr q 0)]) (res := [.one (vb true)]) (ats := #[]) (ty := 0) (v := xb true) (H' := H) [.tmp 0] (by kernel_rfl) (by kernel_rfl) hcall13 (by kernel_rfl)) trivial) (by kernel_rfl)) (by kernel_rfl) ?_
  refine Wp.condF (by kernel_rfl) ?_
  refine Wp.skip ?_
  refine Wp.regionSeq [(3, xi room, H), (7, .y (.one (.sl false true true [] 0)), H), (9, xi room, H)] [(2, xi room)] H
    (cast (And.intro (ob_load_ptr (P := pg) (A := an) (H := H) (t := 3) (ty := 0) (id := q) (off := 0) (n := 1) (cs := [vi room, .sl false true true [] 0]) (cs' := [vi room]) (v := .one (vi room)) (On.at hs1 1 rfl) (by kernel_rfl) (by kernel_rfl) (by kernel_rfl) (by kernel_rfl)) (And.intro (ob_load_ptr (P := pg) (A := an) (H := H) (t := 22) (ty := 0) (id := q) (off := 1) (n := 1) (cs := [vi room, .sl false true true [] 0]) (cs' := [.sl false true true [] 0]) (v := .one (.sl false true true [] 0)) (On.at hs1 1 rfl) (by kernel_rfl) (by kernel_rfl) (by kernel_rfl) (by kernel_rfl)) (And.intro (ob_raw (P := pg) (A := an) (vals := [xi room, xi 0]) (H := H) (op := .binOp .sub 3 (.tmp 0) (.tmp 1) 3) (ty := 0) (r := xi (IntKind.wrap .i64 (room - 0))) (v := xi room) (by kernel_rfl) (congrArg (fun z => xi z) ((wrap64 (by omega)).trans (by omega)))) trivial))) (by kernel_rfl)) (by kernel_rfl) ?_
  refine Wp.ret ?_
  refine ⟨Or.inr rfl, [.one (vi room)], (by kernel_rfl), ?_⟩
  have hs14 : On [R, ringP NI q room l] H := On.shut (cs := [R, pts q (.obj [vi room, .sl false true true [] 0])]) [1] [0] rfl (fun _ x => ring_nil' (hl4) ⟨by omega, by omega⟩ x) hs1
  exact ⟨congrArg (fun z : Int => [Y.one (vi z)]) (by omega), (On.pick [0, 1] [] rfl hs14)⟩
 ·
  refine Runs.of (fn := Try.f14) Try.func14 rfl (by kernel_rfl) [(0, .y (.one (.ptr q 0)))] (by kernel_rfl) ?_
  refine Wp.regionSeq [] [(0, .y (.one (.ptr q 0)))] H
    (cast trivial (by kernel_rfl)) (by kernel_rfl) ?_
  refine Wp.seq ?_
  have hcall15 : Runs pg an 27 [.one (.ptr q 0)] H [.one (vb true)] H := by
   refine runs_of ?_
   refine Runs.of (fn := Try.f27) Try.func27 rfl (by kernel_rfl) [(0, .y (.one (.ptr q 0)))] (by kernel_rfl) ?_
   refine Wp.regionSeq [] [(0, .y (.one (.ptr q 0)))] H
     (cast trivial (by kernel_rfl)) (by kernel_rfl) ?_
   refine Wp.regionSeq [(6, xi room, H), (7, xb true, H)] [(2, xb true)] H
     (cast (And.intro (ob_load_ptr (P := pg) (A := an) (H := H) (t := 3) (ty := 0) (id := q) (off := 0) (n := 1) (cs := [vi room, rowC k5 d6 L7.length o8 l.length cd9]) (cs' := [vi room]) (v := .one (vi room)) (On.at hs2 1 rfl) (by kernel_rfl) (by kernel_rfl) (by kernel_rfl) (by kernel_rfl)) (And.intro (ob_raw (P := pg) (A := an) (vals := [xi room, xi 0]) (H := H) (op := .binOp .gtr 3 (.tmp 0) (.tmp 1) 3) (ty := 0) (r := xb (decide ((room : Int) > 0))) (v := xb true) (by kernel_rfl) (congrArg (fun z => xb z) (decide_eq_true (by omega)))) trivial)) (by kernel_rfl)) (by kernel_rfl) ?_
   refine Wp.ret ?_
   exact ⟨Or.inr rfl, [.one (vb true)], (by kernel_rfl), ⟨rfl, rfl⟩⟩
  refine Wp.regionSeq [(1, xb true, H)] [(0, .y (.one (.ptr q 0))), (5, xb false)] H
    (cast (And.intro (ob_call (P := pg) (A := an) (H := H) (g := 27) (vals := [.y (.one (.ptr q 0))]) (xs0 := [.one (.ptr q 0)]) (res := [.one (vb true)]) (ats := #[]) (ty := 0) (v := xb true) (H' := H) [.tmp 0] (by kernel_rfl) (by kernel_rfl) hcall15 (by kernel_rfl)) trivial) (by kernel_rfl)) (by kernel_rfl) ?_
  refine Wp.condF (by kernel_rfl) ?_
  refine Wp.skip ?_
  refine Wp.regionSeq [(3, xi room, H), (7, .y (.one (rowC k5 d6 L7.length o8 l.length cd9)), H), (8, xi (l.length : Int), H), (9, xi (room - (l.length : Int)), H)] [(2, xi (room - (l.length : Int)))] H
    (cast (And.intro (ob_load_ptr (P := pg) (A := an) (H := H) (t := 3) (ty := 0) (id := q) (off := 0) (n := 1) (cs := [vi room, rowC k5 d6 L7.length o8 l.length cd9]) (cs' := [vi room]) (v := .one (vi room)) (On.at hs2 1 rfl) (by kernel_rfl) (by kernel_rfl) (by kernel_rfl) (by kernel_rfl)) (And.intro (ob_load_ptr (P := pg) (A := an) (H := H) (t := 22) (ty := 0) (id := q) (off := 1) (n := 1) (cs := [vi room, rowC k5 d6 L7.length o8 l.length cd9]) (cs' := [rowC k5 d6 L7.length o8 l.length cd9]) (v := .one (rowC k5 d6 L7.length o8 l.length cd9)) (On.at hs2 1 rfl) (by kernel_rfl) (by kernel_rfl) (by kernel_rfl) (by kernel_rfl)) (And.intro (or_len (P := pg) (A := an) (H := H) (s := NI) (t := 22) (ty := 0) (pu := true) (capd := cd9) (id := k5) (d := d6) (o := o8) (n := l.length) (l := L7) (e := (l.length : Int)) (On.at hs2 2 rfl) (by kernel_rfl) (by first | rfl | omega | (simp only [List.length_nil]; omega) | (simp; done) | (simp; omega))) (And.intro (ob_raw (P := pg) (A := an) (vals := [xi room, xi (l.length : Int)]) (H := H) (op := .binOp .sub 3 (.tmp 0) (.tmp 1) 3) (ty := 0) (r := xi (IntKind.wrap .i64 (room - (l.length : Int)))) (v := xi (room - (l.length : Int))) (by kernel_rfl) (congrArg (fun z => xi z) ((wrap64 (by omega)).trans (by omega)))) trivial)))) (by kernel_rfl)) (by kernel_rfl) ?_
  refine Wp.ret ?_
  refine ⟨Or.inr rfl, [.one (vi (room - (l.length : Int)))], (by kernel_rfl), ?_⟩
  have hs16 : On [R, ringP NI q room l] H := On.shut (cs := [R, pts q (.obj [vi room, rowC k5 d6 L7.length o8 l.length cd9]), pts k5 (rowO NI true d6 L7)]) [1, 2] [0] rfl (fun _ x => ring_row ⟨by omega, by omega, by first | rfl | omega | (simp only [List.length_nil]; omega) | (simp; done) | (simp; omega)⟩ (by first | rfl | omega | (simp only [List.length_nil]; omega) | (simp; done) | (simp; omega)) (by first | rfl | omega | (simp only [List.length_nil]; omega) | (simp; done) | (simp; omega)) (fun h => by have := hc11 h; first | rfl | omega | (simp only [List.length_nil]; omega) | (simp; done) | (simp; omega)) (hl12) x) hs2
  exact ⟨congrArg (fun z : Int => [Y.one (vi z)]) (by omega), (On.pick [0, 1] [] rfl hs16)⟩
theorem at_ok (R : HP) (H : Go.Lg.Heap) (q : Nat) (room : Int) (l : List Int) (i : Int) (x : Int) (hs : On [R, ringP NI q room l] H) (h0 : 0 ≤ i) (h1 : i < l.length) (hx : l[i.toNat]? = some x) : ∃ rs H', Runs pg an 25 [.one (.ptr q 0), .one (vi i)] H rs H' ∧ rs = [.one (vi x), .one (vi 0)] ∧ On [R, ringP NI q room l] H' := by
 obtain ⟨⟨hb3a, hb3b, hb3c⟩, ⟨hl4, hs1⟩ | ⟨k5, d6, L7, o8, cd9, ho10, hc11, hl12, hs2⟩⟩ := ring_open hs 1 rfl
 ·
  have hl4n : (l.length : Int) = 0 := by rw [hl4]; rfl
  exfalso; omega
 ·
  refine Runs.of (fn := Try.f25) Try.func25 rfl (by kernel_rfl) [(0, .y (.one (.ptr q 0))), (1, xi i)] (by kernel_rfl) ?_
  refine Wp.regionSeq [] [(0, .y (.one (.ptr q 0))), (1, xi i), (4, xi 0)] H
    (cast trivial (by kernel_rfl)) (by kernel_rfl) ?_
  refine Wp.seq ?_
  have hcall13 : Runs pg an 27 [.one (.ptr q 0)] H [.one (vb true)] H := by
   refine runs_of ?_
   refine Runs.of (fn := Try.f27) Try.func27 rfl (by kernel_rfl) [(0, .y (.one (.ptr q 0)))] (by kernel_rfl) ?_
   refine Wp.regionSeq [] [(0, .y (.one (.ptr q 0)))] H
     (cast trivial (by kernel_rfl)) (by kernel_rfl) ?_
   refine Wp.regionSeq [(6, xi room, H), (7, xb true, H)] [(2, xb true)] H
     (cast (And.intro (ob_load_ptr (P := pg) (A := an) (H := H) (t := 3) (ty := 0) (id := q) (off := 0) (n := 1) (cs := [vi room, rowC k5 d6 L7.length o8 l.length cd9]) (cs' := [vi room]) (v := .one (vi room)) (On.at hs2 1 rfl) (by kernel_rfl) (by kernel_rfl) (by kernel_rfl) (by kernel_rfl)) (And.intro (ob_raw (P := pg) (A := an) (vals := [xi room, xi 0]) (H := H) (op := .binOp .gtr 3 (.tmp 0) (.tmp 1) 3) (ty := 0) (r := xb (decide ((room : Int) > 0))) (v := xb true) (by kernel_rfl) (congrArg (fun z => xb z) (decide_eq_true (by omega)))) trivial)) (by kernel_rfl)) (by kernel_rfl) ?_
   refine Wp.ret ?_
   exact ⟨Or.inr rfl, [.one (vb true)], (by kernel_rfl), ⟨rfl, rfl⟩⟩
  refine Wp.regionSeq [(1, xb true, H)] [(0, .y (.one (.ptr q 0))), (1, xi i), (4, xi 0), (8, xb false)] H
    (cast (And.intro (ob_call (P := pg) (A := an) (H := H) (g := 27) (vals := [.y (.one (.ptr q 0))]) (xs0 := [.one (.ptr q 0)]) (res := [.one (vb true)]) (ats := #[]) (ty := 0) (v := xb true) (H' := H) [.tmp 0] (by kernel_rfl) (by kernel_rfl) hcall13 (by kernel_rfl)) trivial) (by kernel_rfl)) (by kernel_rfl) ?_
  refine Wp.condF (by kernel_rfl) ?_
  refine Wp.skip ?_
  refine Wp.seq ?_
  refine Wp.regionSeq [(1, xb false, H), (7, .y (.one (rowC k5 d6 L7.length o8 l.length cd9)), H), (8, xi (l.length : Int), H), (9, xb false, H)] [(0, .y (.one (.ptr q 0))), (1, xi i), (4, xi 0), (20, xb false)] H
    (cast (And.intro (ob_raw (P := pg) (A := an) (vals := [xi i, xi 0]) (H := H) (op := .binOp .lss 3 (.tmp 0) (.tmp 1) 3) (ty := 0) (r := xb (decide ((i : Int) < 0))) (v := xb false) (by kernel_rfl) (congrArg (fun z => xb z) (decide_eq_false (by omega)))) (And.intro (ob_load_ptr (P := pg) (A := an) (H := H) (t := 22) (ty := 0) (id := q) (off := 1) (n := 1) (cs := [vi room, rowC k5 d6 L7.length o8 l.length cd9]) (cs' := [rowC k5 d6 L7.length o8 l.length cd9]) (v := .one (rowC k5 d6 L7.length o8 l.length cd9)) (On.at hs2 1 rfl) (by kernel_rfl) (by kernel_rfl) (by kernel_rfl) (by kernel_rfl)) (And.intro (or_len (P := pg) (A := an) (H := H) (s := NI) (t := 22) (ty := 0) (pu := true) (capd := cd9) (id := k5) (d := d6) (o := o8) (n := l.length) (l := L7) (e := (l.length : Int)) (On.at hs2 2 rfl) (by kernel_rfl) (by first | rfl | omega | (simp only [List.length_nil]; omega) | (simp; done) | (simp; omega))) (And.intro (ob_raw (P := pg) (A := an) (vals := [xi i, xi (l.length : Int)]) (H := H) (op := .binOp .geq 3 (.tmp 0) (.tmp 1) 3) (ty := 0) (r := xb (decide ((i : Int) ≥ (l.length : Int)))) (v := xb false) (by kernel_rfl) (congrArg (fun z => xb z) (decide_eq_false (by omega)))) trivial)))) (by kernel_rfl)) (by kernel_rfl) ?_
  refine Wp.condF (by kernel_rfl) ?_
  refine Wp.skip ?_
  obtain ⟨x14, hx14⟩ : ∃ x : Int, l[(i : Int).toNat]? = some x := get_of (by first | rfl | omega | (simp only [List.length_nil]; omega) | (simp; done) | (simp; omega))
  refine Wp.regionSeq [(3, .y (.one (rowC k5 d6 L7.length o8 l.length cd9)), H), (5, .y (.one (raC k5 d6 L7.length 1 ((((o8 : Int) + i) : Int).toNat) 0)), H), (6, xi x14, H)] [(4, xi x14), (5, xi 0)] H
    (cast (And.intro (ob_load_ptr (P := pg) (A := an) (H := H) (t := 22) (ty := 0) (id := q) (off := 1) (n := 1) (cs := [vi room, rowC k5 d6 L7.length o8 l.length cd9]) (cs' := [rowC k5 d6 L7.length o8 l.length cd9]) (v := .one (rowC k5 d6 L7.length o8 l.length cd9)) (On.at hs2 1 rfl) (by kernel_rfl) (by kernel_rfl) (by kernel_rfl) (by kernel_rfl)) (And.intro (or_index (P := pg) (A := an) (H := H) (s := NI) (t := 22) (el := 3) (ty := 0) (pu := true) (capd := cd9) (id := k5) (d := d6) (o := o8) (n := l.length) (j := ((((o8 : Int) + i) : Int).toNat)) (l := L7) (i := i) (On.at hs2 2 rfl) Try.underlying22 (by kernel_rfl) (by omega) (by first | rfl | omega | (simp only [List.length_nil]; omega) | (simp; done) | (simp; omega)) (by first | rfl | omega | (simp only [List.length_nil]; omega) | (simp; done) | (simp; omega)) (by first | rfl | omega | (simp only [List.length_nil]; omega) | (simp; done) | (simp; omega))) (And.intro (or_load (P := pg) (A := an) (H := H) (s := NI) (t := 3) (ty := 0) (pu := true) (id := k5) (d := d6) (j := ((((o8 : Int) + i) : Int).toNat)) (o := 0) (n := 1) (l := L7) (x := x14) (v := .one (vi x14)) (On.at hs2 2 rfl) (by kernel_rfl) (by kernel_rfl) (of_content (hl12) hx14 (by first | rfl | omega | (simp only [List.length_nil]; omega) | (simp; done) | (simp; omega))) (by kernel_rfl)) trivial))) (by kernel_rfl)) (by kernel_rfl) ?_
  refine Wp.ret ?_
  refine ⟨Or.inr rfl, [.one (vi x14), .one (vi 0)], (by kernel_rfl), ?_⟩
  have hs15 : On [R, ringP NI q room l] H := On.shut (cs := [R, pts q (.obj [vi room, rowC k5 d6 L7.length o8 l.length cd9]), pts k5 (rowO NI true d6 L7)]) [1, 2] [0] rfl (fun _ x => ring_row ⟨by omega, by omega, by first | rfl | omega | (simp only [List.length_nil]; omega) | (simp; done) | (simp; omega)⟩ (by first | rfl | omega | (simp only [List.length_nil]; omega) | (simp; done) | (simp; omega)) (by first | rfl | omega | (simp only [List.length_nil]; omega) | (simp; done) | (simp; omega)) (fun h => by have := hc11 h; first | rfl | omega | (simp only [List.length_nil]; omega) | (simp; done) | (simp; omega)) (hl12) x) hs2
  obtain rfl : x14 = x := Option.some.inj (hx14.symm.trans hx)
  exact ⟨rfl, (On.pick [0, 1] [] rfl hs15)⟩
theorem at_low (R : HP) (H : Go.Lg.Heap) (q : Nat) (room : Int) (l : List Int) (i : Int) (hs : On [R, ringP NI q room l] H) (h0 : i < 0) : ∃ rs H', Runs pg an 25 [.one (.ptr q 0), .one (vi i)] H rs H' ∧ rs = [.one (vi 0), .one (vi 3)] ∧ On [R, ringP NI q room l] H' := by
 obtain ⟨⟨hb3a, hb3b, hb3c⟩, ⟨hl4, hs1⟩ | ⟨k5, d6, L7, o8, cd9, ho10, hc11, hl12, hs2⟩⟩ := ring_open hs 1 rfl
 ·
  have hl4n : (l.length : Int) = 0 := by rw [hl4]; rfl
  refine Runs.of (fn := Try.f25) Try.func25 rfl (by kernel_rfl) [(0, .y (.one (.ptr q 0))), (1, xi i)] (by kernel_rfl) ?_
  refine Wp.regionSeq [] [(0, .y (.one (.ptr q 0))), (1, xi i), (4, xi 0)] H
    (cast trivial (by kernel_rfl)) (by kernel_rfl) ?_
  refine Wp.seq ?_
  have hcall13 : Runs pg an 27 [.one (.ptr q 0)] H [.one (vb true)] H := by
   refine runs_of ?_
   refine Runs.of (fn := Try.f27) Try.func27 rfl (by kernel_rfl) [(0, .y (.one (.ptr q 0)))] (by kernel_rfl) ?_
   refine Wp.regionSeq [] [(0, .y (.one (.ptr q 0)))] H
     (cast trivial (by kernel_rfl)) (by kernel_rfl) ?_
   refine Wp.regionSeq [(6, xi room, H), (7, xb true, H)] [(2, xb true)] H
     (cast (And.intro (ob_load_ptr (P := pg) (A := an) (H := H) (t := 3) (ty := 0) (id := q) (off := 0) (n := 1) (cs := [vi room, .sl false true true [] 0]) (cs' := [vi room]) (v := .one (vi room)) (On.at hs1 1 rfl) (by kernel_rfl) (by kernel_rfl) (by kernel_rfl) (by kernel_rfl)) (And.intro (ob_raw (P := pg) (A := an) (vals := [xi room, xi 0]) (H := H) (op := .binOp .gtr 3 (.tmp 0) (.tmp 1) 3) (ty := 0) (r := xb (decide ((room : Int) > 0))) (v := xb true) (by kernel_rfl) (congrArg (fun z => xb z) (decide_eq_true (by omega)))) trivial)) (by kernel_rfl)) (by kernel_rfl) ?_
   refine Wp.ret ?_
   exact ⟨Or.inr rfl, [.one (vb true)], (by kernel_rfl), ⟨rfl, rfl⟩⟩
  refine Wp.regionSeq [(1, xb true, H)] [(0, .y (.one (.ptr q 0))), (1, xi i), (4, xi 0), (8, xb false)] H
    (cast (And.intro (ob_call (P := pg) (A := an) (H := H) (g := 27) (vals := [.y (.one (.ptr q 0))]) (xs0 := [.one (.ptr q 0)]) (res := [.one (vb true)]) (ats := #[]) (ty := 0) (v := xb true) (H' := H) [.tmp 0] (by kernel_rfl) (by kernel_rfl) hcall13 (by kernel_rfl)) trivial) (by kernel_rfl)) (by kernel_rfl) ?_
  refine Wp.condF (by kernel_rfl) ?_
  refine Wp.skip ?_
  refine Wp.seq ?_
  refine Wp.regionSeq [(1, xb true, H)] [(0, .y (.one (.ptr q 0))), (1, xi i), (4, xi 0), (20, xb true)] H
    (cast (And.intro (ob_raw (P := pg) (A := an) (vals := [xi i, xi 0]) (H := H) (op := .binOp .lss 3 (.tmp 0) (.tmp 1) 3) (ty := 0) (r := xb (decide ((i : Int) < 0))) (v := xb true) (by kernel_rfl) (congrArg (fun z => xb z) (decide_eq_true (by omega)))) trivial) (by kernel_rfl)) (by kernel_rfl) ?_
  refine Wp.condT (by kernel_rfl) ?_
  refine Wp.regionSeq [] [(4, xi 0), (5, xi 3)] H
    (cast trivial (by kernel_rfl)) (by kernel_rfl) ?_
  refine Wp.ret ?_
  refine ⟨Or.inr rfl, [.one (vi 0), .one (vi 3)], (by kernel_rfl), ?_⟩
  have hs14 : On [R, ringP NI q room l] H := On.shut (cs := [R, pts q (.obj [vi room, .sl false true true [] 0])]) [1] [0] rfl (fun _ x => ring_nil' (hl4) ⟨by omega, by omega⟩ x) hs1
  exact ⟨rfl, (On.pick [0, 1] [] rfl hs14)⟩
 ·
  refine Runs.of (fn := Try.f25) Try.func25 rfl (by kernel_rfl) [(0, .y (.one (.ptr q 0))), (1, xi i)] (by kernel_rfl) ?_
  refine Wp.regionSeq [] [(0, .y (.one (.ptr q 0))), (1, xi i), (4, xi 0)] H
    (cast trivial (by kernel_rfl)) (by kernel_rfl) ?_
  refine Wp.seq ?_
  have hcall15 : Runs pg an 27 [.one (.ptr q 0)] H [.one (vb true)] H := by
   refine runs_of ?_
   refine Runs.of (fn := Try.f27) Try.func27 rfl (by kernel_rfl) [(0, .y (.one (.ptr q 0)))] (by kernel_rfl) ?_
   refine Wp.regionSeq [] [(0, .y (.one (.ptr q 0)))] H
     (cast trivial (by kernel_rfl)) (by kernel_rfl) ?_
   refine Wp.regionSeq [(6, xi room, H), (7, xb true, H)] [(2, xb true)] H
     (cast (And.intro (ob_load_ptr (P := pg) (A := an) (H := H) (t := 3) (ty := 0) (id := q) (off := 0) (n := 1) (cs := [vi room, rowC k5 d6 L7.length o8 l.length cd9]) (cs' := [vi room]) (v := .one (vi room)) (On.at hs2 1 rfl) (by kernel_rfl) (by kernel_rfl) (by kernel_rfl) (by kernel_rfl)) (And.intro (ob_raw (P := pg) (A := an) (vals := [xi room, xi 0]) (H := H) (op := .binOp .gtr 3 (.tmp 0) (.tmp 1) 3) (ty := 0) (r := xb (decide ((room : Int) > 0))) (v := xb true) (by kernel_rfl) (congrArg (fun z => xb z) (decide_eq_true (by omega)))) trivial)) (by kernel_rfl)) (by kernel_rfl) ?_
   refine Wp.ret ?_
   exact ⟨Or.inr rfl, [.one (vb true)], (by kernel_rfl), ⟨rfl, rfl⟩⟩
  refine Wp.regionSeq [(1, xb true, H)] [(0, .y (.one (.ptr q 0))), (1, xi i), (4, xi 0), (8, xb false)] H
    (cast (And.intro (ob_call (P := pg) (A := an) (H := H) (g := 27) (vals := [.y (.one (.ptr q 0))]) (xs0 := [.one (.ptr q 0)]) (res := [.one (vb true)]) (ats := #[]) (ty := 0) (v := xb true) (H' := H) [.tmp 0] (by kernel_rfl) (by kernel_rfl) hcall15 (by kernel_rfl)) trivial) (by kernel_rfl)) (by kernel_rfl) ?_
  refine Wp.condF (by kernel_rfl) ?_
  refine Wp.skip ?_
  refine Wp.seq ?_
  refine Wp.regionSeq [(1, xb true, H)] [(0, .y (.one (.ptr q 0))), (1, xi i), (4, xi 0), (20, xb true)] H
    (cast (And.intro (ob_raw (P := pg) (A := an) (vals := [xi i, xi 0]) (H := H) (op := .binOp .lss 3 (.tmp 0) (.tmp 1) 3) (ty := 0) (r := xb (decide ((i : Int) < 0))) (v := xb true) (by kernel_rfl) (congrArg (fun z => xb z) (decide_eq_true (by omega)))) trivial) (by kernel_rfl)) (by kernel_rfl) ?_
  refine Wp.condT (by kernel_rfl) ?_
  refine Wp.regionSeq [] [(4, xi 0), (5, xi 3)] H
    (cast trivial (by kernel_rfl)) (by kernel_rfl) ?_
  refine Wp.ret ?_
  refine ⟨Or.inr rfl, [.one (vi 0), .one (vi 3)], (by kernel_rfl), ?_⟩
  have hs16 : On [R, ringP NI q room l] H := On.shut (cs := [R, pts q (.obj [vi room, rowC k5 d6 L7.length o8 l.length cd9]), pts k5 (rowO NI true d6 L7)]) [1, 2] [0] rfl (fun _ x => ring_row ⟨by omega, by omega, by first | rfl | omega | (simp only [List.length_nil]; omega) | (simp; done) | (simp; omega)⟩ (by first | rfl | omega | (simp only [List.length_nil]; omega) | (simp; done) | (simp; omega)) (by first | rfl | omega | (simp only [List.length_nil]; omega) | (simp; done) | (simp; omega)) (fun h => by have := hc11 h; first | rfl | omega | (simp only [List.length_nil]; omega) | (simp; done) | (simp; omega)) (hl12) x) hs2
  exact ⟨rfl, (On.pick [0, 1] [] rfl hs16)⟩
theorem at_high (R : HP) (H : Go.Lg.Heap) (q : Nat) (room : Int) (l : List Int) (i : Int) (hs : On [R, ringP NI q room l] H) (h0 : 0 ≤ i) (h1 : l.length ≤ i) : ∃ rs H', Runs pg an 25 [.one (.ptr q 0), .one (vi i)] H rs H' ∧ rs = [.one (vi 0), .one (vi 3)] ∧ On [R, ringP NI q room l] H' := by
 obtain ⟨⟨hb3a, hb3b, hb3c⟩, ⟨hl4, hs1⟩ | ⟨k5, d6, L7, o8, cd9, ho10, hc11, hl12, hs2⟩⟩ := ring_open hs 1 rfl
 ·
  have hl4n : (l.length : Int) = 0 := by rw [hl4]; rfl
  refine Runs.of (fn := Try.f25) Try.func25 rfl (by kernel_rfl) [(0, .y (.one (.ptr q 0))), (1, xi i)] (by kernel_rfl) ?_
  refine Wp.regionSeq [] [(0, .y (.one (.ptr q 0))), (1, xi i), (4, xi 0)] H
    (cast trivial (by kernel_rfl)) (by kernel_rfl) ?_
  refine Wp.seq ?_
  have hcall13 : Runs pg an 27 [.one (.ptr q 0)] H [.one (vb true)] H := by
   refine runs_of ?_
   refine Runs.of (fn := Try.f27) Try.func27 rfl (by kernel_rfl) [(0, .y (.one (.ptr q 0)))] (by kernel_rfl) ?_
   refine Wp.regionSeq [] [(0, .y (.one (.ptr q 0)))] H
     (cast trivial (by kernel_rfl)) (by kernel_rfl) ?_
   refine Wp.regionSeq [(6, xi room, H), (7, xb true, H)] [(2, xb true)] H
     (cast (And.intro (ob_load_ptr (P := pg) (A := an) (H := H) (t := 3) (ty := 0) (id := q) (off := 0) (n := 1) (cs := [vi room, .sl false true true [] 0]) (cs' := [vi room]) (v := .one (vi room)) (On.at hs1 1 rfl) (by kernel_rfl) (by kernel_rfl) (by kernel_rfl) (by kernel_rfl)) (And.intro (ob_raw (P := pg) (A := an) (vals := [xi room, xi 0]) (H := H) (op := .binOp .gtr 3 (.tmp 0) (.tmp 1) 3) (ty := 0) (r := xb (decide ((room : Int) > 0))) (v := xb true) (by kernel_rfl) (congrArg (fun z => xb z) (decide_eq_true (by omega)))) trivial)) (by kernel_rfl)) (by kernel_rfl) ?_
   refine Wp.ret ?_
   exact ⟨Or.inr rfl, [.one (vb true)], (by kernel_rfl), ⟨rfl, rfl⟩⟩
  refine Wp.regionSeq [(1, xb true, H)] [(0, .y (.one (.ptr q 0))), (1, xi i), (4, xi 0), (8, xb false)] H
    (cast (And.intro (ob_call (P := pg) (A := an) (H := H) (g := 27) (vals := [.y (.one (.ptr q 0))]) (xs0 := [.one (.ptr q 0)]) (res := [.one (vb true)]) (ats := #[]) (ty := 0) (v := xb true) (H' := H) [.tmp 0] (by kernel_rfl) (by kernel_rfl) hcall13 (by kernel_rfl)) trivial) (by kernel_rfl)) (by kernel_rfl) ?_
  refine Wp.condF (by kernel_rfl) ?_
  refine Wp.skip ?_
  refine Wp.seq ?_
  refine Wp.regionSeq [(1, xb false, H), (7, .y (.one (.sl false true true [] 0)), H), (9, xb true, H)] [(0, .y (.one (.ptr q 0))), (1, xi i), (4, xi 0), (20, xb true)] H
    (cast (And.intro (ob_raw (P := pg) (A := an) (vals := [xi i, xi 0]) (H := H) (op := .binOp .lss 3 (.tmp 0) (.tmp 1) 3) (ty := 0) (r := xb (decide ((i : Int) < 0))) (v := xb false) (by kernel_rfl) (congrArg (fun z => xb z) (decide_eq_false (by omega)))) (And.intro (ob_load_ptr (P := pg) (A := an) (H := H) (t := 22) (ty := 0) (id := q) (off := 1) (n := 1) (cs := [vi room, .sl false true true [] 0]) (cs' := [.sl false true true [] 0]) (v := .one (.sl false true true [] 0)) (On.at hs1 1 rfl) (by kernel_rfl) (by kernel_rfl) (by kernel_rfl) (by kernel_rfl)) (And.intro (ob_raw (P := pg) (A := an) (vals := [xi i, xi 0]) (H := H) (op := .binOp .geq 3 (.tmp 0) (.tmp 1) 3) (ty := 0) (r := xb (decide ((i : Int) ≥ 0))) (v := xb true) (by kernel_rfl) (congrArg (fun z => xb z) (decide_eq_true (by omega)))) trivial))) (by kernel_rfl)) (by kernel_rfl) ?_
  refine Wp.condT (by kernel_rfl) ?_
  refine Wp.regionSeq [] [(4, xi 0), (5, xi 3)] H
    (cast trivial (by kernel_rfl)) (by kernel_rfl) ?_
  refine Wp.ret ?_
  refine ⟨Or.inr rfl, [.one (vi 0), .one (vi 3)], (by kernel_rfl), ?_⟩
  have hs14 : On [R, ringP NI q room l] H := On.shut (cs := [R, pts q (.obj [vi room, .sl false true true [] 0])]) [1] [0] rfl (fun _ x => ring_nil' (hl4) ⟨by omega, by omega⟩ x) hs1
  exact ⟨rfl, (On.pick [0, 1] [] rfl hs14)⟩
 ·
  refine Runs.of (fn := Try.f25) Try.func25 rfl (by kernel_rfl) [(0, .y (.one (.ptr q 0))), (1, xi i)] (by kernel_rfl) ?_
  refine Wp.regionSeq [] [(0, .y (.one (.ptr q 0))), (1, xi i), (4, xi 0)] H
    (cast trivial (by kernel_rfl)) (by kernel_rfl) ?_
  refine Wp.seq ?_
  have hcall15 : Runs pg an 27 [.one (.ptr q 0)] H [.one (vb true)] H := by
   refine runs_of ?_
   refine Runs.of (fn := Try.f27) Try.func27 rfl (by kernel_rfl) [(0, .y (.one (.ptr q 0)))] (by kernel_rfl) ?_
   refine Wp.regionSeq [] [(0, .y (.one (.ptr q 0)))] H
     (cast trivial (by kernel_rfl)) (by kernel_rfl) ?_
   refine Wp.regionSeq [(6, xi room, H), (7, xb true, H)] [(2, xb true)] H
     (cast (And.intro (ob_load_ptr (P := pg) (A := an) (H := H) (t := 3) (ty := 0) (id := q) (off := 0) (n := 1) (cs := [vi room, rowC k5 d6 L7.length o8 l.length cd9]) (cs' := [vi room]) (v := .one (vi room)) (On.at hs2 1 rfl) (by kernel_rfl) (by kernel_rfl) (by kernel_rfl) (by kernel_rfl)) (And.intro (ob_raw (P := pg) (A := an) (vals := [xi room, xi 0]) (H := H) (op := .binOp .gtr 3 (.tmp 0) (.tmp 1) 3) (ty := 0) (r := xb (decide ((room : Int) > 0))) (v := xb true) (by kernel_rfl) (congrArg (fun z => xb z) (decide_eq_true (by omega)))) trivial)) (by kernel_rfl)) (by kernel_rfl) ?_
   refine Wp.ret ?_
   exact ⟨Or.inr rfl, [.one (vb true)], (by kernel_rfl), ⟨rfl, rfl⟩⟩
  refine Wp.regionSeq [(1, xb true, H)] [(0, .y (.one (.ptr q 0))), (1, xi i), (4, xi 0), (8, xb false)] H
    (cast (And.intro (ob_call (P := pg) (A := an) (H := H) (g := 27) (vals := [.y (.one (.ptr q 0))]) (xs0 := [.one (.ptr q 0)]) (res := [.one (vb true)]) (ats := #[]) (ty := 0) (v := xb true) (H' := H) [.tmp 0] (by kernel_rfl) (by kernel_rfl) hcall15 (by kernel_rfl)) trivial) (by kernel_rfl)) (by kernel_rfl) ?_
  refine Wp.condF (by kernel_rfl) ?_
  refine Wp.skip ?_
  refine Wp.seq ?_
  refine Wp.regionSeq [(1, xb false, H), (7, .y (.one (rowC k5 d6 L7.length o8 l.length cd9)), H), (8, xi (l.length : Int), H), (9, xb true, H)] [(0, .y (.one (.ptr q 0))), (1, xi i), (4, xi 0), (20, xb true)] H
    (cast (And.intro (ob_raw (P := pg) (A := an) (vals := [xi i, xi 0]) (H := H) (op := .binOp .lss 3 (.tmp 0) (.tmp 1) 3) (ty := 0) (r := xb (decide ((i : Int) < 0))) (v := xb false) (by kernel_rfl) (congrArg (fun z => xb z) (decide_eq_false (by omega)))) (And.intro (ob_load_ptr (P := pg) (A := an) (H := H) (t := 22) (ty := 0) (id := q) (off := 1) (n := 1) (cs := [vi room, rowC k5 d6 L7.length o8 l.length cd9]) (cs' := [rowC k5 d6 L7.length o8 l.length cd9]) (v := .one (rowC k5 d6 L7.length o8 l.length cd9)) (On.at hs2 1 rfl) (by kernel_rfl) (by kernel_rfl) (by kernel_rfl) (by kernel_rfl)) (And.intro (or_len (P := pg) (A := an) (H := H) (s := NI) (t := 22) (ty := 0) (pu := true) (capd := cd9) (id := k5) (d := d6) (o := o8) (n := l.length) (l := L7) (e := (l.length : Int)) (On.at hs2 2 rfl) (by kernel_rfl) (by first | rfl | omega | (simp only [List.length_nil]; omega) | (simp; done) | (simp; omega))) (And.intro (ob_raw (P := pg) (A := an) (vals := [xi i, xi (l.length : Int)]) (H := H) (op := .binOp .geq 3 (.tmp 0) (.tmp 1) 3) (ty := 0) (r := xb (decide ((i : Int) ≥ (l.length : Int)))) (v := xb true) (by kernel_rfl) (congrArg (fun z => xb z) (decide_eq_true (by omega)))) trivial)))) (by kernel_rfl)) (by kernel_rfl) ?_
  refine Wp.condT (by kernel_rfl) ?_
  refine Wp.regionSeq [] [(4, xi 0), (5, xi 3)] H
    (cast trivial (by kernel_rfl)) (by kernel_rfl) ?_
  refine Wp.ret ?_
  refine ⟨Or.inr rfl, [.one (vi 0), .one (vi 3)], (by kernel_rfl), ?_⟩
  have hs16 : On [R, ringP NI q room l] H := On.shut (cs := [R, pts q (.obj [vi room, rowC k5 d6 L7.length o8 l.length cd9]), pts k5 (rowO NI true d6 L7)]) [1, 2] [0] rfl (fun _ x => ring_row ⟨by omega, by omega, by first | rfl | omega | (simp only [List.length_nil]; omega) | (simp; done) | (simp; omega)⟩ (by first | rfl | omega | (simp only [List.length_nil]; omega) | (simp; done) | (simp; omega)) (by first | rfl | omega | (simp only [List.length_nil]; omega) | (simp; done) | (simp; omega)) (fun h => by have := hc11 h; first | rfl | omega | (simp only [List.length_nil]; omega) | (simp; done) | (simp; omega)) (hl12) x) hs2
  exact ⟨rfl, (On.pick [0, 1] [] rfl hs16)⟩
theorem take_ok (R : HP) (H : Go.Lg.Heap) (q : Nat) (room : Int) (l : List Int) (i : Int) (x : Int) (l' : List Int) (hs : On [R, ringP NI q room l] H) (h0 : 0 ≤ i) (h1 : i < l.length) (hx : l[i.toNat]? = some x) (hl' : l.take i.toNat ++ l.drop (i + 1).toNat = l') : ∃ rs H', Runs pg an 26 [.one (.ptr q 0), .one (vi i)] H rs H' ∧ rs = [.one (vi x), .one (vi 0)] ∧ On [R, ringP NI q room l'] H' := by
 have hle' : (l'.length : Int) = l.length - 1 := by rw [← hl']; simp only [List.length_append, List.length_take, List.length_drop]; omega
 refine Runs.of (fn := Try.f26) Try.func26 rfl (by kernel_rfl) [(0, .y (.one (.ptr q 0))), (1, xi i)] (by kernel_rfl) ?_
 refine Wp.regionSeq [] [(0, .y (.one (.ptr q 0))), (1, xi i)] H
   (cast trivial (by kernel_rfl)) (by kernel_rfl) ?_
 refine Wp.seq ?_
 obtain ⟨_, H1, hr2, rfl, hs3⟩ := at_ok _ (H : Go.Lg.Heap) (On.call [1] [0] rfl hs) (q := q) (room := room) (l := l) (i := i) (x := x) (by omega) (by first | rfl | omega | (simp only [List.length_nil]; omega) | (simp; done) | (simp; omega)) hx
 have hs3 : On [R, ringP NI q room l] H1 := On.flat hs3
 refine Wp.regionSeq [(2, .tup [.one (vi x), .one (vi 0)], H1)] [(0, .y (.one (.ptr q 0))), (1, xi i), (4, xi x), (5, xi 0)] H1
   (cast (And.intro (ob_call (P := pg) (A := an) (H := H) (g := 25) (vals := [.y (.one (.ptr q 0)), xi i]) (xs0 := [.one (.ptr q 0), .one (vi i)]) (res := [.one (vi x), .one (vi 0)]) (ats := #[]) (ty := 0) (v := .tup [.one (vi x), .one (vi 0)]) (H' := H1) [.tmp 0, .tmp 1] (by kernel_rfl) (by kernel_rfl) hr2 (by kernel_rfl)) trivial) (by kernel_rfl)) (by kernel_rfl) ?_
 refine Wp.gen (cs := [R, ringP NI q room l]) hs3 ?_
 intro H4 hs5
 refine Wp.regionSeq [] [(0, .y (.one (.ptr q 0))), (1, xi i), (4, xi x), (5, xi 0), (13, xb false)] H4
   (cast trivial (by kernel_rfl)) (by kernel_rfl) ?_
 refine Wp.condF (by kernel_rfl) ?_
 refine Wp.skip ?_
 obtain ⟨⟨hb8a, hb8b, hb8c⟩, ⟨hl9, hs6⟩ | ⟨k10, d11, L12, o13, cd14, ho15, hc16, hl17, hs7⟩⟩ := ring_open hs5 1 rfl
 ·
  have hl9n : (l.length : Int) = 0 := by rw [hl9]; rfl
  exfalso; omega
 ·
  by_cases c19 : (i : Int) = 0
  ·
   have hlfz21 : ((l.drop 1).length : Int) = ((l.length : Int) - 1) := by { first | rfl | omega | (simp only [List.length_nil]; omega) | (simp; done) | (simp; omega) }
   have hcall22 : Runs pg an 35 [.one (rowC k10 d11 L12.length o13 l.length cd14), .one (vi i)] H4 [.one (rowC k10 d11 L12.length ((((o13 : Int) + 1) : Int).toNat) ((l.drop 1).length) cd14)] H4 := by
    refine runs_of ?_
    refine Runs.of (fn := Try.f35) Try.func35 rfl (by kernel_rfl) [(0, .y (.one (rowC k10 d11 L12.length o13 l.length cd14))), (1, xi i)] (by kernel_rfl) ?_
    refine Wp.regionSeq [] [(0, .y (.one (rowC k10 d11 L12.length o13 l.length cd14))), (1, xi i)] H4
      (cast trivial (by kernel_rfl)) (by kernel_rfl) ?_
    refine Wp.seq ?_
    refine Wp.regionSeq [(1, xb true, H4)] [(0, .y (.one (rowC k10 d11 L12.length o13 l.length cd14))), (1, xi i), (6, xb true)] H4
      (cast (And.intro (ob_raw (P := pg) (A := an) (vals := [xi i, xi 0]) (H := H4) (op := .binOp .eql 3 (.tmp 0) (.tmp 1) 3) (ty := 0) (r := xb ((i : Int) == 0)) (v := xb true) (by kernel_rfl) (congrArg (fun z => xb z) (beq_t (by omega)))) trivial) (by kernel_rfl)) (by kernel_rfl) ?_
    refine Wp.condT (by kernel_rfl) ?_
    refine Wp.regionSeq [(1, .y (.one (rowC k10 d11 L12.length ((((o13 : Int) + 1) : Int).toNat) ((l.drop 1).length) cd14)), H4)] [(4, .y (.one (rowC k10 d11 L12.length ((((o13 : Int) + 1) : Int).toNat) ((l.drop 1).length) cd14)))] H4
      (cast (And.intro (or_slicel (P := pg) (A := an) (H := H4) (s := NI) (t := 22) (el := 3) (ty := 0) (pu := true) (id := k10) (d := d11) (o := o13) (n := l.length) (l := L12) (capd := cd14) (o' := ((((o13 : Int) + 1) : Int).toNat)) (n' := ((l.drop 1).length)) (a := 1) (On.at hs7 2 rfl) (by kernel_rfl) (by kernel_rfl) (by omega) (by first | rfl | omega | (simp only [List.length_nil]; omega) | (simp; done) | (simp; omega)) (by first | rfl | omega | (simp only [List.length_nil]; omega) | (simp; done) | (simp; omega)) (by first | rfl | omega | (simp only [List.length_nil]; omega) | (simp; done) | (simp; omega)) (by first | rfl | omega | (simp only [List.length_nil]; omega) | (simp; done) | (simp; omega))) trivial) (by kernel_rfl)) (by kernel_rfl) ?_
    refine Wp.ret ?_
    exact ⟨Or.inr rfl, [.one (rowC k10 d11 L12.length ((((o13 : Int) + 1) : Int).toNat) ((l.drop 1).length) cd14)], (by kernel_rfl), ⟨rfl, rfl⟩⟩
   refine Wp.regionSeq [(4, .y (.one (rowC k10 d11 L12.length o13 l.length cd14)), H4), (6, .y (.one (rowC k10 d11 L12.length ((((o13 : Int) + 1) : Int).toNat) ((l.drop 1).length) cd14)), H4), (9, .tup [], (List.set (α := O) H4 q (.obj [vi room, rowC k10 d11 L12.length ((((o13 : Int) + 1) : Int).toNat) ((l.drop 1).length) cd14])))] [(4, xi x)] (List.set (α := O) H4 q (.obj [vi room, rowC k10 d11 L12.length ((((o13 : Int) + 1) : Int).toNat) ((l.drop 1).length) cd14]))
     (cast (And.intro (ob_load_ptr (P := pg) (A := an) (H := H4) (t := 22) (ty := 0) (id := q) (off := 1) (n := 1) (cs := [vi room, rowC k10 d11 L12.length o13 l.length cd14]) (cs' := [rowC k10 d11 L12.length o13 l.length cd14]) (v := .one (rowC k10 d11 L12.length o13 l.length cd14)) (On.at hs7 1 rfl) (by kernel_rfl) (by kernel_rfl) (by kernel_rfl) (by kernel_rfl)) (And.intro (ob_call (P := pg) (A := an) (H := H4) (g := 35) (vals := [.y (.one (rowC k10 d11 L12.length o13 l.length cd14)), xi i]) (xs0 := [.one (rowC k10 d11 L12.length o13 l.length cd14), .one (vi i)]) (res := [.one (rowC k10 d11 L12.length ((((o13 : Int) + 1) : Int).toNat) ((l.drop 1).length) cd14)]) (ats := #[]) (ty := 0) (v := .y (.one (rowC k10 d11 L12.length ((((o13 : Int) + 1) : Int).toNat) ((l.drop 1).length) cd14))) (H' := H4) [.tmp 0, .tmp 1] (by kernel_rfl) (by kernel_rfl) hcall22 (by kernel_rfl)) (And.intro (ob_store_ptr (P := pg) (A := an) (H := H4) (t := 22) (ty := 0) (id := q) (off := 1) (cs := [vi room, rowC k10 d11 L12.length o13 l.length cd14]) (cs' := [vi room, rowC k10 d11 L12.length ((((o13 : Int) + 1) : Int).toNat) ((l.drop 1).length) cd14]) (v := .one (rowC k10 d11 L12.length ((((o13 : Int) + 1) : Int).toNat) ((l.drop 1).length) cd14)) (On.at hs7 1 rfl) (by kernel_rfl) (by kernel_rfl) (by kernel_rfl)) trivial))) (by kernel_rfl)) (by kernel_rfl) ?_
   refine Wp.gen (cs := [R, pts q (.obj [vi room, rowC k10 d11 L12.length ((((o13 : Int) + 1) : Int).toNat) ((l.drop 1).length) cd14]), pts k10 (rowO NI true d11 L12)]) (On.put (.obj [vi room, rowC k10 d11 L12.length ((((o13 : Int) + 1) : Int).toNat) ((l.drop 1).length) cd14]) hs7 1 rfl) ?_
   intro H24 hs25
   refine Wp.regionSeq [] [(4, xi x), (5, xi 0)] H24
     (cast trivial (by kernel_rfl)) (by kernel_rfl) ?_
   refine Wp.ret ?_
   refine ⟨Or.inr rfl, [.one (vi x), .one (vi 0)], (by kernel_rfl), ?_⟩
   have hs26 : On [R, ringP NI q room l'] H24 := On.shut (cs := [R, pts q (.obj [vi room, rowC k10 d11 L12.length ((((o13 : Int) + 1) : Int).toNat) ((l.drop 1).length) cd14]), pts k10 (rowO NI true d11 L12)]) [1, 2] [0] rfl (fun _ x => ring_row ⟨by omega, by omega, by first | rfl | omega | (simp only [List.length_nil]; omega) | (simp; done) | (simp; omega)⟩ (by first | rfl | omega | (simp only [List.length_nil]; omega) | (simp; done) | (simp; omega)) (by first | rfl | omega | (simp only [List.length_nil]; omega) | (simp; done) | (simp; omega)) (fun h => by have := hc16 h; first | rfl | omega | (simp only [List.length_nil]; omega) | (simp; done) | (simp; omega)) (((content_sub (a := 1) (n' := (l.drop 1).length) (hl17) (by first | rfl | omega | (simp only [List.length_nil]; omega) | (simp; done) | (simp; omega)) (by first | rfl | omega | (simp only [List.length_nil]; omega) | (simp; done) | (simp; omega))).trans (dt1 (by first | rfl | omega | (simp only [List.length_nil]; omega) | (simp; done) | (simp; omega)) (by first | rfl | omega | (simp only [List.length_nil]; omega) | (simp; done) | (simp; omega)))).trans ((by first | exact hl' | (rw [← hl']; done) | (rw [← hl']; simp; done) | (rw [← hl']; apply List.ext_getElem?; intro j; simp [List.getElem?_append, List.getElem?_take, List.getElem?_drop]; omega) | (rw [← hl']; first | rfl | (apply List.ext_getElem?; intro i; first | (simp only [List.nil_append, List.append_nil, List.drop_zero, Nat.zero_add, List.getElem?_take, List.getElem?_drop, List.getElem?_append, List.length_take, List.length_drop, List.length_append, List.length_nil, List.getElem?_nil, Int.toNat_natCast]; done) | ((try simp only [List.nil_append, List.append_nil, List.drop_zero, Nat.zero_add, List.getElem?_take, List.getElem?_drop, List.getElem?_append, List.length_take, List.length_drop, List.length_append, List.length_nil, List.getElem?_nil, Int.toNat_natCast]); (repeat' split) <;> first | rfl | (congr 1; omega) | (exfalso; omega) | (exact List.getElem?_eq_none (by omega)) | (exact (List.getElem?_eq_none (by omega)).symm))))))) x) hs25
   exact ⟨rfl, (On.pick [0, 1] [] rfl hs26)⟩
  ·
   have hlfz28 : ((l.take ((i : Int).toNat)).length : Int) = i := by { first | rfl | omega | (simp only [List.length_nil]; omega) | (simp; done) | (simp; omega) }
   have hlfz31 : ((l.drop (((i + 1) : Int).toNat)).length : Int) = ((l.length : Int) - i - 1) := by { first | rfl | omega | (simp only [List.length_nil]; omega) | (simp; done) | (simp; omega) }
   by_cases c35 : (0 : Int) < ((l.drop (((i + 1) : Int).toNat)).length : Int)
   ·
    obtain ⟨n39, hn39⟩ : ∃ n, n = List.length (H4 : Go.Lg.Heap) := ⟨_, rfl⟩
    have hlfz43 : (((l.take ((i : Int).toNat)) ++ (l.drop (((i + 1) : Int).toNat))).length : Int) = (((l.take ((i : Int).toNat)).length : Int) + ((l.drop (((i + 1) : Int).toNat)).length : Int)) := by { first | rfl | omega | (simp only [List.length_nil]; omega) | (simp; done) | (simp; omega) }
    have hcall44 : Runs pg an 35 [.one (rowC k10 d11 L12.length o13 l.length cd14), .one (vi i)] H4 [.one (rowC n39 0 ((l.take ((i : Int).toNat)) ++ (l.drop (((i + 1) : Int).toNat))).length 0 (((l.take ((i : Int).toNat)) ++ (l.drop (((i + 1) : Int).toNat))).length) false)] (H4 ++ [rowO NI true 0 ((l.take ((i : Int).toNat)) ++ (l.drop (((i + 1) : Int).toNat)))]) := by
     refine runs_of ?_
     refine Runs.of (fn := Try.f35) Try.func35 rfl (by kernel_rfl) [(0, .y (.one (rowC k10 d11 L12.length o13 l.length cd14))), (1, xi i)] (by kernel_rfl) ?_
     refine Wp.regionSeq [] [(0, .y (.one (rowC k10 d11 L12.length o13 l.length cd14))), (1, xi i)] H4
       (cast trivial (by kernel_rfl)) (by kernel_rfl) ?_
     refine Wp.seq ?_
     refine Wp.regionSeq [(1, xb false, H4)] [(0, .y (.one (rowC k10 d11 L12.length o13 l.length cd14))), (1, xi i), (6, xb false)] H4
       (cast (And.intro (ob_raw (P := pg) (A := an) (vals := [xi i, xi 0]) (H := H4) (op := .binOp .eql 3 (.tmp 0) (.tmp 1) 3) (ty := 0) (r := xb ((i : Int) == 0)) (v := xb false) (by kernel_rfl) (congrArg (fun z => xb z) (beq_f (by omega)))) trivial) (by kernel_rfl)) (by kernel_rfl) ?_
     refine Wp.condF (by kernel_rfl) ?_
     refine Wp.skip ?_
     refine Wp.regionSeq [(3, .y (.one (rowC k10 d11 L12.length o13 ((l.take ((i : Int).toNat)).length) true)), H4), (6, xi (i + 1), H4), (7, .y (.one (rowC k10 d11 L12.length ((((o13 : Int) + i + 1) : Int).toNat) ((l.drop (((i + 1) : Int).toNat)).length) cd14)), H4), (8, .y (.one (rowC n39 0 ((l.take ((i : Int).toNat)) ++ (l.drop (((i + 1) : Int).toNat))).length 0 (((l.take ((i : Int).toNat)) ++ (l.drop (((i + 1) : Int).toNat))).length) false)), (H4 ++ [rowO NI true 0 ((l.take ((i : Int).toNat)) ++ (l.drop (((i + 1) : Int).toNat)))]))] [(4, .y (.one (rowC n39 0 ((l.take ((i : Int).toNat)) ++ (l.drop (((i + 1) : Int).toNat))).length 0 (((l.take ((i : Int).toNat)) ++ (l.drop (((i + 1) : Int).toNat))).length) false)))] (H4 ++ [rowO NI true 0 ((l.take ((i : Int).toNat)) ++ (l.drop (((i + 1) : Int).toNat)))])
       (cast (And.intro (or_slicec (P := pg) (A := an) (H := H4) (s := NI) (t := 22) (el := 3) (ty := 0) (pu := true) (id := k10) (d := d11) (o := o13) (n := l.length) (l := L12) (capd := cd14) (n' := ((l.take ((i : Int).toNat)).length)) (h := i) (On.at hs7 2 rfl) (by kernel_rfl) (by kernel_rfl) (by omega) (by first | rfl | omega | (simp only [List.length_nil]; omega) | (simp; done) | (simp; omega)) (by first | rfl | omega | (simp only [List.length_nil]; omega) | (simp; done) | (simp; omega)) (by first | rfl | omega | (simp only [List.length_nil]; omega) | (simp; done) | (simp; omega))) (And.intro (ob_raw (P := pg) (A := an) (vals := [xi i, xi 1]) (H := H4) (op := .binOp .add 3 (.tmp 0) (.tmp 1) 3) (ty := 0) (r := xi (IntKind.wrap .i64 (i + 1))) (v := xi (i + 1)) (by kernel_rfl) (congrArg (fun z => xi z) ((wrap64 (by omega)).trans (by omega)))) (And.intro (or_slicel (P := pg) (A := an) (H := H4) (s := NI) (t := 22) (el := 3) (ty := 0) (pu := true) (id := k10) (d := d11) (o := o13) (n := l.length) (l := L12) (capd := cd14) (o' := ((((o13 : Int) + i + 1) : Int).toNat)) (n' := ((l.drop (((i + 1) : Int).toNat)).length)) (a := (i + 1)) (On.at hs7 2 rfl) (by kernel_rfl) (by kernel_rfl) (by omega) (by first | rfl | omega | (simp only [List.length_nil]; omega) | (simp; done) | (simp; omega)) (by first | rfl | omega | (simp only [List.length_nil]; omega) | (simp; done) | (simp; omega)) (by first | rfl | omega | (simp only [List.length_nil]; omega) | (simp; done) | (simp; omega)) (by first | rfl | omega | (simp only [List.length_nil]; omega) | (simp; done) | (simp; omega))) (And.intro (or_append_cap (P := pg) (A := an) (H := H4) (s := NI) (t := 22) (u := 22) (el := 3) (by_ := 8) (z := [vi 0]) (ty := 0) (pu := true) (puy := true) (id := k10) (d := d11) (o := o13) (n := ((l.take ((i : Int).toNat)).length)) (m := ((l.drop (((i + 1) : Int).toNat)).length)) (l := L12) (lm := (l.drop (((i + 1) : Int).toNat))) (y := rowC k10 d11 L12.length ((((o13 : Int) + i + 1) : Int).toNat) ((l.drop (((i + 1) : Int).toNat)).length) cd14) (n' := ((l.take ((i : Int).toNat)) ++ (l.drop (((i + 1) : Int).toNat))).length) (k := n39) (l' := ((l.take ((i : Int).toNat)) ++ (l.drop (((i + 1) : Int).toNat)))) hn39 (On.at hs7 2 rfl) (slCells_rowO (H := H4) (s := NI) (pu := true) (capd := cd14) (id := k10) (d := d11) (o := ((((o13 : Int) + i + 1) : Int).toNat)) (n := ((l.drop (((i + 1) : Int).toNat)).length)) (l := L12) (m := (l.drop (((i + 1) : Int).toNat))) (On.at hs7 2 rfl) (by first | rfl | omega | (simp only [List.length_nil]; omega) | (simp; done) | (simp; omega)) ((content_sub (a := (((i + 1) : Int).toNat)) (n' := (l.drop (((i + 1) : Int).toNat)).length) (hl17) (by first | rfl | omega | (simp only [List.length_nil]; omega) | (simp; done) | (simp; omega)) (by first | rfl | omega | (simp only [List.length_nil]; omega) | (simp; done) | (simp; omega))).trans (dt1 (by first | rfl | omega | (simp only [List.length_nil]; omega) | (simp; done) | (simp; omega)) (by first | rfl | omega | (simp only [List.length_nil]; omega) | (simp; done) | (simp; omega))))) (by kernel_rfl) (by kernel_rfl) (by kernel_rfl) (by kernel_rfl) (by kernel_rfl) (by kernel_rfl) (by kernel_rfl) (by first | rfl | omega | (simp only [List.length_nil]; omega) | (simp; done) | (simp; omega)) (by first | rfl | omega | (simp only [List.length_nil]; omega) | (simp; done) | (simp; omega)) (by first | rfl | omega | (simp only [List.length_nil]; omega) | (simp; done) | (simp; omega)) (by omega) (by omega) (congrArg (fun z => z ++ _) ((content_sub (a := 0) (n' := (l.take ((i : Int).toNat)).length) (hl17) (by first | rfl | omega | (simp only [List.length_nil]; omega) | (simp; done) | (simp; omega)) (by first | rfl | omega | (simp only [List.length_nil]; omega) | (simp; done) | (simp; omega))).trans (take_len (by first | rfl | omega | (simp only [List.length_nil]; omega) | (simp; done) | (simp; omega))))) (by first | (simp only [List.length_append]; done) | (simp only [List.length_append]; first | omega | (simp; done) | (simp; omega)))) trivial)))) (by kernel_rfl)) (by kernel_rfl) ?_
     refine Wp.ret ?_
     exact ⟨Or.inr rfl, [.one (rowC n39 0 ((l.take ((i : Int).toNat)) ++ (l.drop (((i + 1) : Int).toNat))).length 0 (((l.take ((i : Int).toNat)) ++ (l.drop (((i + 1) : Int).toNat))).length) false)], (by kernel_rfl), ⟨rfl, rfl⟩⟩
    refine Wp.regionSeq [(4, .y (.one (rowC k10 d11 L12.length o13 l.length cd14)), H4), (6, .y (.one (rowC n39 0 ((l.take ((i : Int).toNat)) ++ (l.drop (((i + 1) : Int).toNat))).length 0 (((l.take ((i : Int).toNat)) ++ (l.drop (((i + 1) : Int).toNat))).length) false)), (H4 ++ [rowO NI true 0 ((l.take ((i : Int).toNat)) ++ (l.drop (((i + 1) : Int).toNat)))])), (9, .tup [], (List.set (α := O) (H4 ++ [rowO NI true 0 ((l.take ((i : Int).toNat)) ++ (l.drop (((i + 1) : Int).toNat)))]) q (.obj [vi room, rowC n39 0 ((l.take ((i : Int).toNat)) ++ (l.drop (((i + 1) : Int).toNat))).length 0 (((l.take ((i : Int).toNat)) ++ (l.drop (((i + 1) : Int).toNat))).length) false])))] [(4, xi x)] (List.set (α := O) (H4 ++ [rowO NI true 0 ((l.take ((i : Int).toNat)) ++ (l.drop (((i + 1) : Int).toNat)))]) q (.obj [vi room, rowC n39 0 ((l.take ((i : Int).toNat)) ++ (l.drop (((i + 1) : Int).toNat))).length 0 (((l.take ((i : Int).toNat)) ++ (l.drop (((i + 1) : Int).toNat))).length) false]))
      (cast (And.intro (ob_load_ptr (P := pg) (A := an) (H := H4) (t := 22) (ty := 0) (id := q) (off := 1) (n := 1) (cs := [vi room, rowC k10 d11 L12.length o13 l.length cd14]) (cs' := [rowC k10 d11 L12.length o13 l.length cd14]) (v := .one (rowC k10 d11 L12.length o13 l.length cd14)) (On.at hs7 1 rfl) (by kernel_rfl) (by kernel_rfl) (by kernel_rfl) (by kernel_rfl)) (And.intro (ob_call (P := pg) (A := an) (H := H4) (g := 35) (vals := [.y (.one (rowC k10 d11 L12.length o13 l.length cd14)), xi i]) (xs0 := [.one (rowC k10 d11 L12.length o13 l.length cd14), .one (vi i)]) (res := [.one (rowC n39 0 ((l.take ((i : Int).toNat)) ++ (l.drop (((i + 1) : Int).toNat))).length 0 (((l.take ((i : Int).toNat)) ++ (l.drop (((i + 1) : Int).toNat))).length) false)]) (ats := #[]) (ty := 0) (v := .y (.one (rowC n39 0 ((l.take ((i : Int).toNat)) ++ (l.drop (((i + 1) : Int).toNat))).length 0 (((l.take ((i : Int).toNat)) ++ (l.drop (((i + 1) : Int).toNat))).length) false))) (H' := (H4 ++ [rowO NI true 0 ((l.take ((i : Int).toNat)) ++ (l.drop (((i + 1) : Int).toNat)))])) [.tmp 0, .tmp 1] (by kernel_rfl) (by kernel_rfl) hcall44 (by kernel_rfl)) (And.intro (ob_store_ptr (P := pg) (A := an) (H := (H4 ++ [rowO NI true 0 ((l.take ((i : Int).toNat)) ++ (l.drop (((i + 1) : Int).toNat)))])) (t := 22) (ty := 0) (id := q) (off := 1) (cs := [vi room, rowC k10 d11 L12.length o13 l.length cd14]) (cs' := [vi room, rowC n39 0 ((l.take ((i : Int).toNat)) ++ (l.drop (((i + 1) : Int).toNat))).length 0 (((l.take ((i : Int).toNat)) ++ (l.drop (((i + 1) : Int).toNat))).length) false]) (v := .one (rowC n39 0 ((l.take ((i : Int).toNat)) ++ (l.drop (((i + 1) : Int).toNat))).length 0 (((l.take ((i : Int).toNat)) ++ (l.drop (((i + 1) : Int).toNat))).length) false)) (On.at (On.new' hn39 (rowO NI true 0 ((l.take ((i : Int).toNat)) ++ (l.drop (((i + 1) : Int).toNat)))) hs7) 1 rfl) (by kernel_rfl) (by kernel_rfl) (by kernel_rfl)) trivial))) (by kernel_rfl)) (by kernel_rfl) ?_
    refine Wp.gen (cs := [R, pts q (.obj [vi room, rowC n39 0 ((l.take ((i : Int).toNat)) ++ (l.drop (((i + 1) : Int).toNat))).length 0 (((l.take ((i : Int).toNat)) ++ (l.drop (((i + 1) : Int).toNat))).length) false]), pts k10 (rowO NI true d11 L12), pts n39 (rowO NI true 0 ((l.take ((i : Int).toNat)) ++ (l.drop (((i + 1) : Int).toNat))))]) (On.put (.obj [vi room, rowC n39 0 ((l.take ((i : Int).toNat)) ++ (l.drop (((i + 1) : Int).toNat))).length 0 (((l.take ((i : Int).toNat)) ++ (l.drop (((i + 1) : Int).toNat))).length) false]) (On.new' hn39 (rowO NI true 0 ((l.take ((i : Int).toNat)) ++ (l.drop (((i + 1) : Int).toNat)))) hs7) 1 rfl) ?_
    intro H48 hs49
    refine Wp.regionSeq [] [(4, xi x), (5, xi 0)] H48
      (cast trivial (by kernel_rfl)) (by kernel_rfl) ?_
    refine Wp.ret ?_
    refine ⟨Or.inr rfl, [.one (vi x), .one (vi 0)], (by kernel_rfl), ?_⟩
    have hs50 : On [R, pts k10 (rowO NI true d11 L12), ringP NI q room l'] H48 := On.shut (cs := [R, pts q (.obj [vi room, rowC n39 0 ((l.take ((i : Int).toNat)) ++ (l.drop (((i + 1) : Int).toNat))).length 0 (((l.take ((i : Int).toNat)) ++ (l.drop (((i + 1) : Int).toNat))).length) false]), pts k10 (rowO NI true d11 L12), pts n39 (rowO NI true 0 ((l.take ((i : Int).toNat)) ++ (l.drop (((i + 1) : Int).toNat))))]) [1, 3] [0, 2] rfl (fun _ x => ring_row ⟨by omega, by omega, by first | rfl | omega | (simp only [List.length_nil]; omega) | (simp; done) | (simp; omega)⟩ (by first | rfl | omega | (simp only [List.length_nil]; omega) | (simp; done) | (simp; omega)) (by first | rfl | omega | (simp only [List.length_nil]; omega) | (simp; done) | (simp; omega)) (fun _ => by first | rfl | omega | (simp only [List.length_nil]; omega) | (simp; done) | (simp; omega)) ((dt0 rfl (Nat.le_refl _)).trans ((by first | exact hl' | (rw [← hl']; done) | (rw [← hl']; simp; done) | (rw [← hl']; apply List.ext_getElem?; intro j; simp [List.getElem?_append, List.getElem?_take, List.getElem?_drop]; omega) | (rw [← hl']; first | rfl | (apply List.ext_getElem?; intro i; first | (simp only [List.nil_append, List.append_nil, List.drop_zero, Nat.zero_add, List.getElem?_take, List.getElem?_drop, List.getElem?_append, List.length_take, List.length_drop, List.length_append, List.length_nil, List.getElem?_nil, Int.toNat_natCast]; done) | ((try simp only [List.nil_append, List.append_nil, List.drop_zero, Nat.zero_add, List.getElem?_take, List.getElem?_drop, List.getElem?_append, List.length_take, List.length_drop, List.length_append, List.length_nil, List.getElem?_nil, Int.toNat_natCast]); (repeat' split) <;> first | rfl | (congr 1; omega) | (exfalso; omega) | (exact List.getElem?_eq_none (by omega)) | (exact (List.getElem?_eq_none (by omega)).symm))))))) x) hs49
    exact ⟨rfl, (On.pick [0, 2] [1] rfl hs50)⟩
   ·
    have hcall51 : Runs pg an 35 [.one (rowC k10 d11 L12.length o13 l.length cd14), .one (vi i)] H4 [.one (rowC k10 d11 L12.length o13 ((l.take ((i : Int).toNat)).length) true)] H4 := by
     refine runs_of ?_
     refine Runs.of (fn := Try.f35) Try.func35 rfl (by kernel_rfl) [(0, .y (.one (rowC k10 d11 L12.length o13 l.length cd14))), (1, xi i)] (by kernel_rfl) ?_
     refine Wp.regionSeq [] [(0, .y (.one (rowC k10 d11 L12.length o13 l.length cd14))), (1, xi i)] H4
       (cast trivial (by kernel_rfl)) (by kernel_rfl) ?_
     refine Wp.seq ?_
     refine Wp.regionSeq [(1, xb false, H4)] [(0, .y (.one (rowC k10 d11 L12.length o13 l.length cd14))), (1, xi i), (6, xb false)] H4
       (cast (And.intro (ob_raw (P := pg) (A := an) (vals := [xi i, xi 0]) (H := H4) (op := .binOp .eql 3 (.tmp 0) (.tmp 1) 3) (ty := 0) (r := xb ((i : Int) == 0)) (v := xb false) (by kernel_rfl) (congrArg (fun z => xb z) (beq_f (by omega)))) trivial) (by kernel_rfl)) (by kernel_rfl) ?_
     refine Wp.condF (by kernel_rfl) ?_
     refine Wp.skip ?_
     refine Wp.regionSeq [(3, .y (.one (rowC k10 d11 L12.length o13 ((l.take ((i : Int).toNat)).length) true)), H4), (6, xi (i + 1), H4), (7, .y (.one (rowC k10 d11 L12.length ((((o13 : Int) + i + 1) : Int).toNat) ((l.drop (((i + 1) : Int).toNat)).length) cd14)), H4), (8, .y (.one (rowC k10 d11 L12.length o13 ((l.take ((i : Int).toNat)).length) true)), H4)] [(4, .y (.one (rowC k10 d11 L12.length o13 ((l.take ((i : Int).toNat)).length) true)))] H4
       (cast (And.intro (or_slicec (P := pg) (A := an) (H := H4) (s := NI) (t := 22) (el := 3) (ty := 0) (pu := true) (id := k10) (d := d11) (o := o13) (n := l.length) (l := L12) (capd := cd14) (n' := ((l.take ((i : Int).toNat)).length)) (h := i) (On.at hs7 2 rfl) (by kernel_rfl) (by kernel_rfl) (by omega) (by first | rfl | omega | (simp only [List.length_nil]; omega) | (simp; done) | (simp; omega)) (by first | rfl | omega | (simp only [List.length_nil]; omega) | (simp; done) | (simp; omega)) (by first | rfl | omega | (simp only [List.length_nil]; omega) | (simp; done) | (simp; omega))) (And.intro (ob_raw (P := pg) (A := an) (vals := [xi i, xi 1]) (H := H4) (op := .binOp .add 3 (.tmp 0) (.tmp 1) 3) (ty := 0) (r := xi (IntKind.wrap .i64 (i + 1))) (v := xi (i + 1)) (by kernel_rfl) (congrArg (fun z => xi z) ((wrap64 (by omega)).trans (by omega)))) (And.intro (or_slicel (P := pg) (A := an) (H := H4) (s := NI) (t := 22) (el := 3) (ty := 0) (pu := true) (id := k10) (d := d11) (o := o13) (n := l.length) (l := L12) (capd := cd14) (o' := ((((o13 : Int) + i + 1) : Int).toNat)) (n' := ((l.drop (((i + 1) : Int).toNat)).length)) (a := (i + 1)) (On.at hs7 2 rfl) (by kernel_rfl) (by kernel_rfl) (by omega) (by first | rfl | omega | (simp only [List.length_nil]; omega) | (simp; done) | (simp; omega)) (by first | rfl | omega | (simp only [List.length_nil]; omega) | (simp; done) | (simp; omega)) (by first | rfl | omega | (simp only [List.length_nil]; omega) | (simp; done) | (simp; omega)) (by first | rfl | omega | (simp only [List.length_nil]; omega) | (simp; done) | (simp; omega))) (And.intro (ob_append_none (P := pg) (A := an) (H := H4) (t := 22) (u := 22) (el := 3) (by_ := 8) (z := [vi 0]) (ty := 0) (sz := 1) (c := rowC k10 d11 L12.length o13 ((l.take ((i : Int).toNat)).length) true) (y := rowC k10 d11 L12.length ((((o13 : Int) + i + 1) : Int).toNat) ((l.drop (((i + 1) : Int).toNat)).length) cd14) (cs := (l.take ((i : Int).toNat)).flatMap (enc NI)) (n := ((l.take ((i : Int).toNat)).length)) (pu := true) (cs' := (l.drop (((i + 1) : Int).toNat)).flatMap (enc NI)) (puy := true) (slCells_rowO (H := H4) (s := NI) (pu := true) (capd := true) (id := k10) (d := d11) (o := o13) (n := ((l.take ((i : Int).toNat)).length)) (l := L12) (m := (l.take ((i : Int).toNat))) (On.at hs7 2 rfl) (by first | rfl | omega | (simp only [List.length_nil]; omega) | (simp; done) | (simp; omega)) ((content_sub (a := 0) (n' := (l.take ((i : Int).toNat)).length) (hl17) (by first | rfl | omega | (simp only [List.length_nil]; omega) | (simp; done) | (simp; omega)) (by first | rfl | omega | (simp only [List.length_nil]; omega) | (simp; done) | (simp; omega))).trans (take_len (by first | rfl | omega | (simp only [List.length_nil]; omega) | (simp; done) | (simp; omega))))) (((slCells_rowO (H := H4) (s := NI) (pu := true) (capd := cd14) (id := k10) (d := d11) (o := ((((o13 : Int) + i + 1) : Int).toNat)) (n := ((l.drop (((i + 1) : Int).toNat)).length)) (l := L12) (m := (l.drop (((i + 1) : Int).toNat))) (On.at hs7 2 rfl) (by first | rfl | omega | (simp only [List.length_nil]; omega) | (simp; done) | (simp; omega)) ((content_sub (a := (((i + 1) : Int).toNat)) (n' := (l.drop (((i + 1) : Int).toNat)).length) (hl17) (by first | rfl | omega | (simp only [List.length_nil]; omega) | (simp; done) | (simp; omega)) (by first | rfl | omega | (simp only [List.length_nil]; omega) | (simp; done) | (simp; omega))).trans (dt1 (by first | rfl | omega | (simp only [List.length_nil]; omega) | (simp; done) | (simp; omega)) (by first | rfl | omega | (simp only [List.length_nil]; omega) | (simp; done) | (simp; omega)))))).trans (by rw [show ((l.drop (((i + 1) : Int).toNat)).length) = 0 from by first | rfl | omega | (simp only [List.length_nil]; omega) | (simp; done) | (simp; omega)])) (by kernel_rfl) (by kernel_rfl) (by kernel_rfl) (by kernel_rfl) (by kernel_rfl) (by kernel_rfl)) trivial)))) (by kernel_rfl)) (by kernel_rfl) ?_
     refine Wp.ret ?_
     exact ⟨Or.inr rfl, [.one (rowC k10 d11 L12.length o13 ((l.take ((i : Int).toNat)).length) true)], (by kernel_rfl), ⟨rfl, rfl⟩⟩
    refine Wp.regionSeq [(4, .y (.one (rowC k10 d11 L12.length o13 l.length cd14)), H4), (6, .y (.one (rowC k10 d11 L12.length o13 ((l.take ((i : Int).toNat)).length) true)), H4), (9, .tup [], (List.set (α := O) H4 q (.obj [vi room, rowC k10 d11 L12.length o13 ((l.take ((i : Int).toNat)).length) true])))] [(4, xi x)] (List.set (α := O) H4 q (.obj [vi room, rowC k10 d11 L12.length o13 ((l.take ((i : Int).toNat)).length) true]))
      (cast (And.intro (ob_load_ptr (P := pg) (A := an) (H := H4) (t := 22) (ty := 0) (id := q) (off := 1) (n := 1) (cs := [vi room, rowC k10 d11 L12.length o13 l.length cd14]) (cs' := [rowC k10 d11 L12.length o13 l.length cd14]) (v := .one (rowC k10 d11 L12.length o13 l.length cd14)) (On.at hs7 1 rfl) (by kernel_rfl) (by kernel_rfl) (by kernel_rfl) (by kernel_rfl)) (And.intro (ob_call (P := pg) (A := an) (H := H4) (g := 35) (vals := [.y (.one (rowC k10 d11 L12.length o13 l.length cd14)), xi i]) (xs0 := [.one (rowC k10 d11 L12.length o13 l.length cd14), .one (vi i)]) (res := [.one (rowC k10 d11 L12.length o13 ((l.take ((i : Int).toNat)).length) true)]) (ats := #[]) (ty := 0) (v := .y (.one (rowC k10 d11 L12.length o13 ((l.take ((i : Int).toNat)).length) true))) (H' := H4) [.tmp 0, .tmp 1] (by kernel_rfl) (by kernel_rfl) hcall51 (by kernel_rfl)) (And.intro (ob_store_ptr (P := pg) (A := an) (H := H4) (t := 22) (ty := 0) (id := q) (off := 1) (cs := [vi room, rowC k10 d11 L12.length o13 l.length cd14]) (cs' := [vi room, rowC k10 d11 L12.length o13 ((l.take ((i : Int).toNat)).length) true]) (v := .one (rowC k10 d11 L12.length o13 ((l.take ((i : Int).toNat)).length) true)) (On.at hs7 1 rfl) (by kernel_rfl) (by kernel_rfl) (by kernel_rfl)) trivial))) (by kernel_rfl)) (by kernel_rfl) ?_
    refine Wp.gen (cs := [R, pts q (.obj [vi room, rowC k10 d11 L12.length o13 ((l.take ((i : Int).toNat)).length) true]), pts k10 (rowO NI true d11 L12)]) (On.put (.obj [vi room, rowC k10 d11 L12.length o13 ((l.take ((i : Int).toNat)).length) true]) hs7 1 rfl) ?_
    intro H54 hs55
    refine Wp.regionSeq [] [(4, xi x), (5, xi 0)] H54
      (cast trivial (by kernel_rfl)) (by kernel_rfl) ?_
    refine Wp.ret ?_
    refine ⟨Or.inr rfl, [.one (vi x), .one (vi 0)], (by kernel_rfl), ?_⟩
    have hs56 : On [R, ringP NI q room l'] H54 := On.shut (cs := [R, pts q (.obj [vi room, rowC k10 d11 L12.length o13 ((l.take ((i : Int).toNat)).length) true]), pts k10 (rowO NI true d11 L12)]) [1, 2] [0] rfl (fun _ x => ring_row ⟨by omega, by omega, by first | rfl | omega | (simp only [List.length_nil]; omega) | (simp; done) | (simp; omega)⟩ (by first | rfl | omega | (simp only [List.length_nil]; omega) | (simp; done) | (simp; omega)) (by first | rfl | omega | (simp only [List.length_nil]; omega) | (simp; done) | (simp; omega)) (fun h => by cases h) (((content_sub (a := 0) (n' := (l.take ((i : Int).toNat)).length) (hl17) (by first | rfl | omega | (simp only [List.length_nil]; omega) | (simp; done) | (simp; omega)) (by first | rfl | omega | (simp only [List.length_nil]; omega) | (simp; done) | (simp; omega))).trans (take_len (by first | rfl | omega | (simp only [List.length_nil]; omega) | (simp; done) | (simp; omega)))).trans ((by first | exact hl' | (rw [← hl']; done) | (rw [← hl']; simp; done) | (rw [← hl']; apply List.ext_getElem?; intro j; simp [List.getElem?_append, List.getElem?_take, List.getElem?_drop]; omega) | (rw [← hl']; first | rfl | (apply List.ext_getElem?; intro i; first | (simp only [List.nil_append, List.append_nil, List.drop_zero, Nat.zero_add, List.getElem?_take, List.getElem?_drop, List.getElem?_append, List.length_take, List.length_drop, List.length_append, List.length_nil, List.getElem?_nil, Int.toNat_natCast]; done) | ((try simp only [List.nil_append, List.append_nil, List.drop_zero, Nat.zero_add, List.getElem?_take, List.getElem?_drop, List.getElem?_append, List.length_take, List.length_drop, List.length_append, List.length_nil, List.getElem?_nil, Int.toNat_natCast]); (repeat' split) <;> first | rfl | (congr 1; omega) | (exfalso; omega) | (exact List.getElem?_eq_none (by omega)) | (exact (List.getElem?_eq_none (by omega)).symm))))))) x) hs55
    exact ⟨rfl, (On.pick [0, 1] [] rfl hs56)⟩
theorem take_low (R : HP) (H : Go.Lg.Heap) (q : Nat) (room : Int) (l : List Int) (i : Int) (hs : On [R, ringP NI q room l] H) (h0 : i < 0) : ∃ rs H', Runs pg an 26 [.one (.ptr q 0), .one (vi i)] H rs H' ∧ rs = [.one (vi 0), .one (vi 3)] ∧ On [R, ringP NI q room l] H' := by
 refine Runs.of (fn := Try.f26) Try.func26 rfl (by kernel_rfl) [(0, .y (.one (.ptr q 0))), (1, xi i)] (by kernel_rfl) ?_
 refine Wp.regionSeq [] [(0, .y (.one (.ptr q 0))), (1, xi i)] H
   (cast trivial (by kernel_rfl)) (by kernel_rfl) ?_
 refine Wp.seq ?_
 obtain ⟨_, H1, hr2, rfl, hs3⟩ := at_low _ (H : Go.Lg.Heap) (On.call [1] [0] rfl hs) (q := q) (room := room) (l := l) (i := i) (by omega)
 have hs3 : On [R, ringP NI q room l] H1 := On.flat hs3
 refine Wp.regionSeq [(2, .tup [.one (vi 0), .one (vi 3)], H1)] [(0, .y (.one (.ptr q 0))), (1, xi i), (4, xi 0), (5, xi 3)] H1
   (cast (And.intro (ob_call (P := pg) (A := an) (H := H) (g := 25) (vals := [.y (.one (.ptr q 0)), xi i]) (xs0 := [.one (.ptr q 0), .one (vi i)]) (res := [.one (vi 0), .one (vi 3)]) (ats := #[]) (ty := 0) (v := .tup [.one (vi 0), .one (vi 3)]) (H' := H1) [.tmp 0, .tmp 1] (by kernel_rfl) (by kernel_rfl) hr2 (by kernel_rfl)) trivial) (by kernel_rfl)) (by kernel_rfl) ?_
 refine Wp.gen (cs := [R, ringP NI q room l]) hs3 ?_
 intro H4 hs5
 refine Wp.regionSeq [] [(0, .y (.one (.ptr q 0))), (1, xi i), (4, xi 0), (5, xi 3), (13, xb true)] H4
   (cast trivial (by kernel_rfl)) (by kernel_rfl) ?_
 refine Wp.condT (by kernel_rfl) ?_
 refine Wp.regionSeq [] [(4, xi 0), (5, xi 3)] H4
   (cast trivial (by kernel_rfl)) (by kernel_rfl) ?_
 refine Wp.ret ?_
 refine ⟨Or.inr rfl, [.one (vi 0), .one (vi 3)], (by kernel_rfl), ?_⟩
 exact ⟨rfl, (On.pick [0, 1] [] rfl hs5)⟩
theorem take_high (R : HP) (H : Go.Lg.Heap) (q : Nat) (room : Int) (l : List Int) (i : Int) (hs : On [R, ringP NI q room l] H) (h0 : 0 ≤ i) (h1 : l.length ≤ i) : ∃ rs H', Runs pg an 26 [.one (.ptr q 0), .one (vi i)] H rs H' ∧ rs = [.one (vi 0), .one (vi 3)] ∧ On [R, ringP NI q room l] H' := by
 refine Runs.of (fn := Try.f26) Try.func26 rfl (by kernel_rfl) [(0, .y (.one (.ptr q 0))), (1, xi i)] (by kernel_rfl) ?_
 refine Wp.regionSeq [] [(0, .y (.one (.ptr q 0))), (1, xi i)] H
   (cast trivial (by kernel_rfl)) (by kernel_rfl) ?_
 refine Wp.seq ?_
 obtain ⟨_, H1, hr2, rfl, hs3⟩ := at_high _ (H : Go.Lg.Heap) (On.call [1] [0] rfl hs) (q := q) (room := room) (l := l) (i := i) (by omega) (by first | rfl | omega | (simp only [List.length_nil]; omega) | (simp; done) | (simp; omega))
 have hs3 : On [R, ringP NI q room l] H1 := On.flat hs3
 refine Wp.regionSeq [(2, .tup [.one (vi 0), .one (vi 3)], H1)] [(0, .y (.one (.ptr q 0))), (1, xi i), (4, xi 0), (5, xi 3)] H1
   (cast (And.intro (ob_call (P := pg) (A := an) (H := H) (g := 25) (vals := [.y (.one (.ptr q 0)), xi i]) (xs0 := [.one (.ptr q 0), .one (vi i)]) (res := [.one (vi 0), .one (vi 3)]) (ats := #[]) (ty := 0) (v := .tup [.one (vi 0), .one (vi 3)]) (H' := H1) [.tmp 0, .tmp 1] (by kernel_rfl) (by kernel_rfl) hr2 (by kernel_rfl)) trivial) (by kernel_rfl)) (by kernel_rfl) ?_
 refine Wp.gen (cs := [R, ringP NI q room l]) hs3 ?_
 intro H4 hs5
 refine Wp.regionSeq [] [(0, .y (.one (.ptr q 0))), (1, xi i), (4, xi 0), (5, xi 3), (13, xb true)] H4
   (cast trivial (by kernel_rfl)) (by kernel_rfl) ?_
 refine Wp.condT (by kernel_rfl) ?_
 refine Wp.regionSeq [] [(4, xi 0), (5, xi 3)] H4
   (cast trivial (by kernel_rfl)) (by kernel_rfl) ?_
 refine Wp.ret ?_
 refine ⟨Or.inr rfl, [.one (vi 0), .one (vi 3)], (by kernel_rfl), ?_⟩
 exact ⟨rfl, (On.pick [0, 1] [] rfl hs5)⟩
theorem pop_ok (R : HP) (H : Go.Lg.Heap) (q : Nat) (room : Int) (l : List Int) (x : Int) (hs : On [R, ringP NI q room l] H) (h1 : 0 < l.length) (hx : l[0]? = some x) : ∃ rs H', Runs pg an 12 [.one (.ptr q 0)] H rs H' ∧ rs = [.one (vi x), .one (vi 0)] ∧ On [R, ringP NI q room (l.drop 1)] H' := by
 refine Runs.of (fn := Try.f12) Try.func12 rfl (by kernel_rfl) [(0, .y (.one (.ptr q 0)))] (by kernel_rfl) ?_
 refine Wp.regionSeq [] [(0, .y (.one (.ptr q 0)))] H
   (cast trivial (by kernel_rfl)) (by kernel_rfl) ?_
 have hlfz1 : ((l.drop 1).length : Int) = ((l.length : Int) - 1) := by { first | rfl | omega | (simp only [List.length_nil]; omega) | (simp; done) | (simp; omega) }
 obtain ⟨_, H3, hr4, rfl, hs5⟩ := take_ok _ (H : Go.Lg.Heap) (On.call [1] [0] rfl hs) (q := q) (room := room) (l := l) (i := 0) (x := x) (by omega) (by first | rfl | omega | (simp only [List.length_nil]; omega) | (simp; done) | (simp; omega)) hx (l' := (l.drop 1)) (by simp)
 have hs5 : On [R, ringP NI q room (l.drop 1)] H3 := On.flat hs5
 refine Wp.regionSeq [(1, .tup [.one (vi x), .one (vi 0)], H3)] [(2, xi x), (3, xi 0)] H3
   (cast (And.intro (ob_call (P := pg) (A := an) (H := H) (g := 26) (vals := [.y (.one (.ptr q 0)), xi 0]) (xs0 := [.one (.ptr q 0), .one (vi 0)]) (res := [.one (vi x), .one (vi 0)]) (ats := #[]) (ty := 0) (v := .tup [.one (vi x), .one (vi 0)]) (H' := H3) [.tmp 0, .tmp 1] (by kernel_rfl) (by kernel_rfl) hr4 (by kernel_rfl)) trivial) (by kernel_rfl)) (by kernel_rfl) ?_
 refine Wp.gen (cs := [R, ringP NI q room (l.drop 1)]) hs5 ?_
 intro H6 hs7
 refine Wp.ret ?_
 refine ⟨Or.inr rfl, [.one (vi x), .one (vi 0)], (by kernel_rfl), ?_⟩
 exact ⟨rfl, (On.pick [0, 1] [] rfl hs7)⟩
theorem pop_none (R : HP) (H : Go.Lg.Heap) (q : Nat) (room : Int) (l : List Int) (hs : On [R, ringP NI q room l] H) (h1 : l.length = 0) : ∃ rs H', Runs pg an 12 [.one (.ptr q 0)] H rs H' ∧ rs = [.one (vi 0), .one (vi 3)] ∧ On [R, ringP NI q room l] H' := by
 refine Runs.of (fn := Try.f12) Try.func12 rfl (by kernel_rfl) [(0, .y (.one (.ptr q 0)))] (by kernel_rfl) ?_
 refine Wp.regionSeq [] [(0, .y (.one (.ptr q 0)))] H
   (cast trivial (by kernel_rfl)) (by kernel_rfl) ?_
 obtain ⟨_, H1, hr2, rfl, hs3⟩ := take_high _ (H : Go.Lg.Heap) (On.call [1] [0] rfl hs) (q := q) (room := room) (l := l) (i := 0) (by omega) (by first | rfl | omega | (simp only [List.length_nil]; omega) | (simp; done) | (simp; omega))
 have hs3 : On [R, ringP NI q room l] H1 := On.flat hs3
 refine Wp.regionSeq [(1, .tup [.one (vi 0), .one (vi 3)], H1)] [(2, xi 0), (3, xi 3)] H1
   (cast (And.intro (ob_call (P := pg) (A := an) (H := H) (g := 26) (vals := [.y (.one (.ptr q 0)), xi 0]) (xs0 := [.one (.ptr q 0), .one (vi 0)]) (res := [.one (vi 0), .one (vi 3)]) (ats := #[]) (ty := 0) (v := .tup [.one (vi 0), .one (vi 3)]) (H' := H1) [.tmp 0, .tmp 1] (by kernel_rfl) (by kernel_rfl) hr2 (by kernel_rfl)) trivial) (by kernel_rfl)) (by kernel_rfl) ?_
 refine Wp.gen (cs := [R, ringP NI q room l]) hs3 ?_
 intro H4 hs5
 refine Wp.ret ?_
 refine ⟨Or.inr rfl, [.one (vi 0), .one (vi 3)], (by kernel_rfl), ?_⟩
 exact ⟨rfl, (On.pick [0, 1] [] rfl hs5)⟩
theorem items_ok (R : HP) (H : Go.Lg.Heap) (q : Nat) (room : Int) (l : List Int) (hs : On [R, ringP NI q room l] H) : ∃ rs H', Runs pg an 21 [.one (.ptr q 0)] H rs H' ∧ ∃ k', rs = [.one (rowC k' 0 l.length 0 l.length true)] ∧ On [R, ringP NI q room l, pts k' (rowO NI true 0 l)] H' := by
 obtain ⟨⟨hb3a, hb3b, hb3c⟩, ⟨hl4, hs1⟩ | ⟨k5, d6, L7, o8, cd9, ho10, hc11, hl12, hs2⟩⟩ := ring_open hs 1 rfl
 ·
  have hl4n : (l.length : Int) = 0 := by rw [hl4]; rfl
  refine Runs.of (fn := Try.f21) Try.func21 rfl (by kernel_rfl) [(0, .y (.one (.ptr q 0)))] (by kernel_rfl) ?_
  refine Wp.regionSeq [] [(0, .y (.one (.ptr q 0)))] H
    (cast trivial (by kernel_rfl)) (by kernel_rfl) ?_
  refine Wp.seq ?_
  have hcall13 : Runs pg an 27 [.one (.ptr q 0)] H [.one (vb true)] H := by
   refine runs_of ?_
   refine Runs.of (fn := Try.f27) Try.func27 rfl (by kernel_rfl) [(0, .y (.one (.ptr q 0)))] (by kernel_rfl) ?_
   refine Wp.regionSeq [] [(0, .y (.one (.ptr q 0)))] H
     (cast trivial (by kernel_rfl)) (by kernel_rfl) ?_
   refine Wp.regionSeq [(6, xi room, H), (7, xb true, H)] [(2, xb true)] H
     (cast (And.intro (ob_load_ptr (P := pg) (A := an) (H := H) (t := 3) (ty := 0) (id := q) (off := 0) (n := 1) (cs := [vi room, .sl false true true [] 0]) (cs' := [vi room]) (v := .one (vi room)) (On.at hs1 1 rfl) (by kernel_rfl) (by kernel_rfl) (by kernel_rfl) (by kernel_rfl)) (And.intro (ob_raw (P := pg) (A := an) (vals := [xi room, xi 0]) (H := H) (op := .binOp .gtr 3 (.tmp 0) (.tmp 1) 3) (ty := 0) (r := xb (decide ((room : Int) > 0))) (v := xb true) (by kernel_rfl) (congrArg (fun z => xb z) (decide_eq_true (by omega)))) trivial)) (by kernel_rfl)) (by kernel_rfl) ?_
   refine Wp.ret ?_
   exact ⟨Or.inr rfl, [.one (vb true)], (by kernel_rfl), ⟨rfl, rfl⟩⟩
  refine Wp.regionSeq [(1, xb true, H)] [(0, .y (.one (.ptr q 0))), (5, xb false)] H
    (cast (And.intro (ob_call (P := pg) (A := an) (H := H) (g := 27) (vals := [.y (.one (.ptr q 0))]) (xs0 := [.one (.ptr q 0)]) (res := [.one (vb true)]) (ats := #[]) (ty := 0) (v := xb true) (H' := H) [.tmp 0] (by kernel_rfl) (by kernel_rfl) hcall13 (by kernel_rfl)) trivial) (by kernel_rfl)) (by kernel_rfl) ?_
  refine Wp.condF (by kernel_rfl) ?_
  refine Wp.skip ?_
  obtain ⟨_, H15, hr16, k14, rfl, hs17⟩ := own_nil _ (H : Go.Lg.Heap) (On.call [] [0, 1] rfl hs1) 
  have hs17 : On [R, pts q (.obj [vi room, .sl false true true [] 0]), pts k14 (rowO NI true 0 ([] : List Int))] H15 := On.flat hs17
  refine Wp.regionSeq [(3, .y (.one (.sl false true true [] 0)), H), (4, .y (.one (rowC k14 0 ([] : List Int).length 0 (([] : List Int).length) true)), H15)] [(2, .y (.one (rowC k14 0 ([] : List Int).length 0 (([] : List Int).length) true)))] H15
    (cast (And.intro (ob_load_ptr (P := pg) (A := an) (H := H) (t := 22) (ty := 0) (id := q) (off := 1) (n := 1) (cs := [vi room, .sl false true true [] 0]) (cs' := [.sl false true true [] 0]) (v := .one (.sl false true true [] 0)) (On.at hs1 1 rfl) (by kernel_rfl) (by kernel_rfl) (by kernel_rfl) (by kernel_rfl)) (And.intro (ob_call (P := pg) (A := an) (H := H) (g := 28) (vals := [.y (.one (.sl false true true [] 0))]) (xs0 := [.one (.sl false true true [] 0)]) (res := [.one (rowC k14 0 ([] : List Int).length 0 (([] : List Int).length) true)]) (ats := #[]) (ty := 0) (v := .y (.one (rowC k14 0 ([] : List Int).length 0 (([] : List Int).length) true))) (H' := H15) [.tmp 0] (by kernel_rfl) (by kernel_rfl) hr16 (by kernel_rfl)) trivial)) (by kernel_rfl)) (by kernel_rfl) ?_
  refine Wp.gen (cs := [R, pts q (.obj [vi room, .sl false true true [] 0]), pts k14 (rowO NI true 0 ([] : List Int))]) hs17 ?_
  intro H18 hs19
  refine Wp.ret ?_
  refine ⟨Or.inr rfl, [.one (rowC k14 0 ([] : List Int).length 0 (([] : List Int).length) true)], (by kernel_rfl), ?_⟩
  have hs20 : On [R, pts k14 (rowO NI true 0 ([] : List Int)), ringP NI q room l] H18 := On.shut (cs := [R, pts q (.obj [vi room, .sl false true true [] 0]), pts k14 (rowO NI true 0 ([] : List Int))]) [1] [0, 2] rfl (fun _ x => ring_nil' (hl4) ⟨by omega, by omega⟩ x) hs19
  have hs21 := (On.pick [0, 2, 1] [] rfl hs20)
  exact ⟨k14, congrArg (fun z : List Int => [Y.one (rowC k14 0 z.length 0 z.length true)]) (Eq.symm hl4), Eq.mp (congrArg (fun z : List Int => On [R, ringP NI q room l, pts k14 (rowO NI true 0 z)] _) (Eq.symm hl4)) hs21⟩
 ·
  refine Runs.of (fn := Try.f21) Try.func21 rfl (by kernel_rfl) [(0, .y (.one (.ptr q 0)))] (by kernel_rfl) ?_
  refine Wp.regionSeq [] [(0, .y (.one (.ptr q 0)))] H
    (cast trivial (by kernel_rfl)) (by kernel_rfl) ?_
  refine Wp.seq ?_
  have hcall22 : Runs pg an 27 [.one (.ptr q 0)] H [.one (vb true)] H := by
   refine runs_of ?_
   refine Runs.of (fn := Try.f27) Try.func27 rfl (by kernel_rfl) [(0, .y (.one (.ptr q 0)))] (by kernel_rfl) ?_
   refine Wp.regionSeq [] [(0, .y (.one (.ptr q 0)))] H
     (cast trivial (by kernel_rfl)) (by kernel_rfl) ?_
   refine Wp.regionSeq [(6, xi room, H), (7, xb true, H)] [(2, xb true)] H
     (cast (And.intro (ob_load_ptr (P := pg) (A := an) (H := H) (t := 3) (ty := 0) (id := q) (off := 0) (n := 1) (cs := [vi room, rowC k5 d6 L7.length o8 l.length cd9]) (cs' := [vi room]) (v := .one (vi room)) (On.at hs2 1 rfl) (by kernel_rfl) (by kernel_rfl) (by kernel_rfl) (by kernel_rfl)) (And.intro (ob_raw (P := pg) (A := an) (vals := [xi room, xi 0]) (H := H) (op := .binOp .gtr 3 (.tmp 0) (.tmp 1) 3) (ty := 0) (r := xb (decide ((room : Int) > 0))) (v := xb true) (by kernel_rfl) (congrArg (fun z => xb z) (decide_eq_true (by omega)))) trivial)) (by kernel_rfl)) (by kernel_rfl) ?_
   refine Wp.ret ?_
   exact ⟨Or.inr rfl, [.one (vb true)], (by kernel_rfl), ⟨rfl, rfl⟩⟩
  refine Wp.regionSeq [(1, xb true, H)] [(0, .y (.one (.ptr q 0))), (5, xb false)] H
    (cast (And.intro (ob_call (P := pg) (A := an) (H := H) (g := 27) (vals := [.y (.one (.ptr q 0))]) (xs0 := [.one (.ptr q 0)]) (res := [.one (vb true)]) (ats := #[]) (ty := 0) (v := xb true) (H' := H) [.tmp 0] (by kernel_rfl) (by kernel_rfl) hcall22 (by kernel_rfl)) trivial) (by kernel_rfl)) (by kernel_rfl) ?_
  refine Wp.condF (by kernel_rfl) ?_
  refine Wp.skip ?_
  obtain ⟨_, H24, hr25, k23, rfl, hs26⟩ := own_row _ (H : Go.Lg.Heap) (On.call [2] [0, 1] rfl hs2) (k := k5) (d := d6) (o := o8) (capd := cd9) (L := L7) (l := l) (by first | rfl | omega | (simp only [List.length_nil]; omega) | (simp; done) | (simp; omega)) (hl12) (by first | rfl | omega | (simp only [List.length_nil]; omega) | (simp; done) | (simp; omega))
  have hs26 : On [R, pts q (.obj [vi room, rowC k5 d6 L7.length o8 l.length cd9]), pts k5 (rowO NI true d6 L7), pts k23 (rowO NI true 0 l)] H24 := On.flat hs26
  refine Wp.regionSeq [(3, .y (.one (rowC k5 d6 L7.length o8 l.length cd9)), H), (4, .y (.one (rowC k23 0 l.length 0 l.length true)), H24)] [(2, .y (.one (rowC k23 0 l.length 0 l.length true)))] H24
    (cast (And.intro (ob_load_ptr (P := pg) (A := an) (H := H) (t := 22) (ty := 0) (id := q) (off := 1) (n := 1) (cs := [vi room, rowC k5 d6 L7.length o8 l.length cd9]) (cs' := [rowC k5 d6 L7.length o8 l.length cd9]) (v := .one (rowC k5 d6 L7.length o8 l.length cd9)) (On.at hs2 1 rfl) (by kernel_rfl) (by kernel_rfl) (by kernel_rfl) (by kernel_rfl)) (And.intro (ob_call (P := pg) (A := an) (H := H) (g := 28) (vals := [.y (.one (rowC k5 d6 L7.length o8 l.length cd9))]) (xs0 := [.one (rowC k5 d6 L7.length o8 l.length cd9)]) (res := [.one (rowC k23 0 l.length 0 l.length true)]) (ats := #[]) (ty := 0) (v := .y (.one (rowC k23 0 l.length 0 l.length true))) (H' := H24) [.tmp 0] (by kernel_rfl) (by kernel_rfl) hr25 (by kernel_rfl)) trivial)) (by kernel_rfl)) (by kernel_rfl) ?_
  refine Wp.gen (cs := [R, pts q (.obj [vi room, rowC k5 d6 L7.length o8 l.length cd9]), pts k5 (rowO NI true d6 L7), pts k23 (rowO NI true 0 l)]) hs26 ?_
  intro H27 hs28
  refine Wp.ret ?_
  refine ⟨Or.inr rfl, [.one (rowC k23 0 l.length 0 l.length true)], (by kernel_rfl), ?_⟩
  have hs29 : On [R, pts k23 (rowO NI true 0 l), ringP NI q room l] H27 := On.shut (cs := [R, pts q (.obj [vi room, rowC k5 d6 L7.length o8 l.length cd9]), pts k5 (rowO NI true d6 L7), pts k23 (rowO NI true 0 l)]) [1, 2] [0, 3] rfl (fun _ x => ring_row ⟨by omega, by omega, by first | rfl | omega | (simp only [List.length_nil]; omega) | (simp; done) | (simp; omega)⟩ (by first | rfl | omega | (simp only [List.length_nil]; omega) | (simp; done) | (simp; omega)) (by first | rfl | omega | (simp only [List.length_nil]; omega) | (simp; done) | (simp; omega)) (fun h => by have := hc11 h; first | rfl | omega | (simp only [List.length_nil]; omega) | (simp; done) | (simp; omega)) (hl12) x) hs28
  have hs30 := (On.pick [0, 2, 1] [] rfl hs29)
  exact ⟨k23, rfl, hs30⟩
theorem copy_ok (R : HP) (H : Go.Lg.Heap) (q : Nat) (room : Int) (l : List Int) (hs : On [R, ringP NI q room l] H) : ∃ rs H', Runs pg an 24 [.one (.ptr q 0)] H rs H' ∧ ∃ q', rs = [.one (.ptr q' 0)] ∧ On [R, ringP NI q room l, ringP NI q' room l] H' := by
 obtain ⟨⟨hb3a, hb3b, hb3c⟩, ⟨hl4, hs1⟩ | ⟨k5, d6, L7, o8, cd9, ho10, hc11, hl12, hs2⟩⟩ := ring_open hs 1 rfl
 ·
  have hl4n : (l.length : Int) = 0 := by rw [hl4]; rfl
  refine Runs.of (fn := Try.f24) Try.func24 rfl (by kernel_rfl) [(0, .y (.one (.ptr q 0)))] (by kernel_rfl) ?_
  refine Wp.regionSeq [] [(0, .y (.one (.ptr q 0)))] H
    (cast trivial (by kernel_rfl)) (by kernel_rfl) ?_
  refine Wp.seq ?_
  have hcall13 : Runs pg an 27 [.one (.ptr q 0)] H [.one (vb true)] H := by
   refine runs_of ?_
   refine Runs.of (fn := Try.f27) Try.func27 rfl (by kernel_rfl) [(0, .y (.one (.ptr q 0)))] (by kernel_rfl) ?_
   refine Wp.regionSeq [] [(0, .y (.one (.ptr q 0)))] H
     (cast trivial (by kernel_rfl)) (by kernel_rfl) ?_
   refine Wp.regionSeq [(6, xi room, H), (7, xb true, H)] [(2, xb true)] H
     (cast (And.intro (ob_load_ptr (P := pg) (A := an) (H := H) (t := 3) (ty := 0) (id := q) (off := 0) (n := 1) (cs := [vi room, .sl false true true [] 0]) (cs' := [vi room]) (v := .one (vi room)) (On.at hs1 1 rfl) (by kernel_rfl) (by kernel_rfl) (by kernel_rfl) (by kernel_rfl)) (And.intro (ob_raw (P := pg) (A := an) (vals := [xi room, xi 0]) (H := H) (op := .binOp .gtr 3 (.tmp 0) (.tmp 1) 3) (ty := 0) (r := xb (decide ((room : Int) > 0))) (v := xb true) (by kernel_rfl) (congrArg (fun z => xb z) (decide_eq_true (by omega)))) trivial)) (by kernel_rfl)) (by kernel_rfl) ?_
   refine Wp.ret ?_
   exact ⟨Or.inr rfl, [.one (vb true)], (by kernel_rfl), ⟨rfl, rfl⟩⟩
  refine Wp.regionSeq [(1, xb true, H)] [(0, .y (.one (.ptr q 0))), (5, xb false)] H
    (cast (And.intro (ob_call (P := pg) (A := an) (H := H) (g := 27) (vals := [.y (.one (.ptr q 0))]) (xs0 := [.one (.ptr q 0)]) (res := [.one (vb true)]) (ats := #[]) (ty := 0) (v := xb true) (H' := H) [.tmp 0] (by kernel_rfl) (by kernel_rfl) hcall13 (by kernel_rfl)) trivial) (by kernel_rfl)) (by kernel_rfl) ?_
  refine Wp.condF (by kernel_rfl) ?_
  refine Wp.skip ?_
  obtain ⟨_, H15, hr16, k14, rfl, hs17⟩ := own_nil _ ((hideH [q] H) : Go.Lg.Heap) (On.call [] [0, 1] rfl (On.hide1 hs1 1 rfl)) 
  have hs17 : On [R, pts q (.map (.fro [vi room, .sl false true true [] 0])), pts k14 (rowO NI true 0 ([] : List Int))] H15 := On.flat hs17
  obtain ⟨n18, hn18⟩ : ∃ n, n = List.length ((backH [q] H H15) : Go.Lg.Heap) := ⟨_, rfl⟩
  refine Wp.regionSeq [(3, xi room, H), (7, .y (.one (.sl false true true [] 0)), H), (8, .y (.one (rowC k14 0 ([] : List Int).length 0 (([] : List Int).length) true)), (backH [q] H H15)), (10, .y (.one (.ptr n18 0)), ((backH [q] H H15) ++ [.obj [vi room, rowC k14 0 ([] : List Int).length 0 (([] : List Int).length) true]]))] [(2, .y (.one (.ptr n18 0)))] ((backH [q] H H15) ++ [.obj [vi room, rowC k14 0 ([] : List Int).length 0 (([] : List Int).length) true]])
    (cast (And.intro (ob_ins (H := H) (ob_load_ptr (P := pg) (A := an) (H := (onlyH [q] H)) (t := 3) (ty := 0) (id := q) (off := 0) (n := 1) (cs := [vi room, .sl false true true [] 0]) (cs' := [vi room]) (v := .one (vi room)) (onlyH_at (M := [q]) (by simp) (On.at hs1 1 rfl)) (by kernel_rfl) (by kernel_rfl) (by kernel_rfl) (by kernel_rfl))) (And.intro (ob_load_ptr (P := pg) (A := an) (H := H) (t := 22) (ty := 0) (id := q) (off := 1) (n := 1) (cs := [vi room, .sl false true true [] 0]) (cs' := [.sl false true true [] 0]) (v := .one (.sl false true true [] 0)) (On.at hs1 1 rfl) (by kernel_rfl) (by kernel_rfl) (by kernel_rfl) (by kernel_rfl)) (And.intro (ob_out (M := [q]) (H := H) (H' := H15) (H2 := (backH [q] H H15)) (mayHide1 (On.at hs1 1 rfl) rfl) (ob_call (P := pg) (A := an) (H := (hideH [q] H)) (g := 28) (vals := [.y (.one (.sl false true true [] 0))]) (xs0 := [.one (.sl false true true [] 0)]) (res := [.one (rowC k14 0 ([] : List Int).length 0 (([] : List Int).length) true)]) (ats := #[]) (ty := 0) (v := .y (.one (rowC k14 0 ([] : List Int).length 0 (([] : List Int).length) true))) (H' := H15) [.tmp 0] (by kernel_rfl) (by kernel_rfl) hr16 (by kernel_rfl)) rfl) (And.intro (ob_box (P := pg) (A := an) (H := (backH [q] H H15)) (t := 57) (ty := 0) (n := n18) (v := .agg [vi room, rowC k14 0 ([] : List Int).length 0 (([] : List Int).length) true]) (cs := [vi room, rowC k14 0 ([] : List Int).length 0 (([] : List Int).length) true]) hn18 (by kernel_rfl) (by kernel_rfl) (by kernel_rfl)) trivial)))) (by kernel_rfl)) (by kernel_rfl) ?_
  refine Wp.gen (cs := [R, pts q (.obj [vi room, .sl false true true [] 0]), pts k14 (rowO NI true 0 ([] : List Int)), pts n18 (.obj [vi room, rowC k14 0 ([] : List Int).length 0 (([] : List Int).length) true])]) (On.new' hn18 (.obj [vi room, rowC k14 0 ([] : List Int).length 0 (([] : List Int).length) true]) (On.back1 hs17 1 rfl (On.at hs1 1 rfl))) ?_
  intro H19 hs20
  refine Wp.ret ?_
  refine ⟨Or.inr rfl, [.one (.ptr n18 0)], (by kernel_rfl), ?_⟩
  have hs21 : On [R, pts k14 (rowO NI true 0 ([] : List Int)), pts n18 (.obj [vi room, rowC k14 0 ([] : List Int).length 0 (([] : List Int).length) true]), ringP NI q room l] H19 := On.shut (cs := [R, pts q (.obj [vi room, .sl false true true [] 0]), pts k14 (rowO NI true 0 ([] : List Int)), pts n18 (.obj [vi room, rowC k14 0 ([] : List Int).length 0 (([] : List Int).length) true])]) [1] [0, 2, 3] rfl (fun _ x => ring_nil' (hl4) ⟨by omega, by omega⟩ x) hs20
  have hs22 : On [R, ringP NI q room l, ringP NI n18 room l] H19 := On.shut (cs := [R, pts k14 (rowO NI true 0 ([] : List Int)), pts n18 (.obj [vi room, rowC k14 0 ([] : List Int).length 0 (([] : List Int).length) true]), ringP NI q room l]) [2, 1] [0, 3] rfl (fun _ x => ring_row ⟨by omega, by omega, by first | rfl | omega | (simp only [List.length_nil]; omega) | (simp; done) | (simp; omega)⟩ (by first | rfl | omega | (simp only [List.length_nil]; omega) | (simp; done) | (simp; omega)) (by first | rfl | omega | (simp only [List.length_nil]; omega) | (simp; done) | (simp; omega)) (fun h => by cases h) ((rfl).trans (Eq.symm hl4)) x) hs21
  exact ⟨n18, rfl, (On.pick [0, 1, 2] [] rfl hs22)⟩
 ·
  refine Runs.of (fn := Try.f24) Try.func24 rfl (by kernel_rfl) [(0, .y (.one (.ptr q 0)))] (by kernel_rfl) ?_
  refine Wp.regionSeq [] [(0, .y (.one (.ptr q 0)))] H
    (cast trivial (by kernel_rfl)) (by kernel_rfl) ?_
  refine Wp.seq ?_
  have hcall23 : Runs pg an 27 [.one (.ptr q 0)] H [.one (vb true)] H := by
   refine runs_of ?_
   refine Runs.of (fn := Try.f27) Try.func27 rfl (by kernel_rfl) [(0, .y (.one (.ptr q 0)))] (by kernel_rfl) ?_
   refine Wp.regionSeq [] [(0, .y (.one (.ptr q 0)))] H
     (cast trivial (by kernel_rfl)) (by kernel_rfl) ?_
   refine Wp.regionSeq [(6, xi room, H), (7, xb true, H)] [(2, xb true)] H
     (cast (And.intro (ob_load_ptr (P := pg) (A := an) (H := H) (t := 3) (ty := 0) (id := q) (off := 0) (n := 1) (cs := [vi room, rowC k5 d6 L7.length o8 l.length cd9]) (cs' := [vi room]) (v := .one (vi room)) (On.at hs2 1 rfl) (by kernel_rfl) (by kernel_rfl) (by kernel_rfl) (by kernel_rfl)) (And.intro (ob_raw (P := pg) (A := an) (vals := [xi room, xi 0]) (H := H) (op := .binOp .gtr 3 (.tmp 0) (.tmp 1) 3) (ty := 0) (r := xb (decide ((room : Int) > 0))) (v := xb true) (by kernel_rfl) (congrArg (fun z => xb z) (decide_eq_true (by omega)))) trivial)) (by kernel_rfl)) (by kernel_rfl) ?_
   refine Wp.ret ?_
   exact ⟨Or.inr rfl, [.one (vb true)], (by kernel_rfl), ⟨rfl, rfl⟩⟩
  refine Wp.regionSeq [(1, xb true, H)] [(0, .y (.one (.ptr q 0))), (5, xb false)] H
    (cast (And.intro (ob_call (P := pg) (A := an) (H := H) (g := 27) (vals := [.y (.one (.ptr q 0))]) (xs0 := [.one (.ptr q 0)]) (res := [.one (vb true)]) (ats := #[]) (ty := 0) (v := xb true) (H' := H) [.tmp 0] (by kernel_rfl) (by kernel_rfl) hcall23 (by kernel_rfl)) trivial) (by kernel_rfl)) (by kernel_rfl) ?_
  refine Wp.condF (by kernel_rfl) ?_
  refine Wp.skip ?_
  obtain ⟨_, H25, hr26, k24, rfl, hs27⟩ := own_row _ ((hideH [q] H) : Go.Lg.Heap) (On.call [2] [0, 1] rfl (On.hide1 hs2 1 rfl)) (k := k5) (d := d6) (o := o8) (capd := cd9) (L := L7) (l := l) (by first | rfl | omega | (simp only [List.length_nil]; omega) | (simp; done) | (simp; omega)) (hl12) (by first | rfl | omega | (simp only [List.length_nil]; omega) | (simp; done) | (simp; omega))
  have hs27 : On [R, pts q (.map (.fro [vi room, rowC k5 d6 L7.length o8 l.length cd9])), pts k5 (rowO NI true d6 L7), pts k24 (rowO NI true 0 l)] H25 := On.flat hs27
  obtain ⟨n28, hn28⟩ : ∃ n, n = List.length ((backH [q] H H25) : Go.Lg.Heap) := ⟨_, rfl⟩
  refine Wp.regionSeq [(3, xi room, H), (7, .y (.one (rowC k5 d6 L7.length o8 l.length cd9)), H), (8, .y (.one (rowC k24 0 l.length 0 l.length true)), (backH [q] H H25)), (10, .y (.one (.ptr n28 0)), ((backH [q] H H25) ++ [.obj [vi room, rowC k24 0 l.length 0 l.length true]]))] [(2, .y (.one (.ptr n28 0)))] ((backH [q] H H25) ++ [.obj [vi room, rowC k24 0 l.length 0 l.length true]])
    (cast (And.intro (ob_ins (H := H) (ob_load_ptr (P := pg) (A := an) (H := (onlyH [q] H)) (t := 3) (ty := 0) (id := q) (off := 0) (n := 1) (cs := [vi room, rowC k5 d6 L7.length o8 l.length cd9]) (cs' := [vi room]) (v := .one (vi room)) (onlyH_at (M := [q]) (by simp) (On.at hs2 1 rfl)) (by kernel_rfl) (by kernel_rfl) (by kernel_rfl) (by kernel_rfl))) (And.intro (ob_load_ptr (P := pg) (A := an) (H := H) (t := 22) (ty := 0) (id := q) (off := 1) (n := 1) (cs := [vi room, rowC k5 d6 L7.length o8 l.length cd9]) (cs' := [rowC k5 d6 L7.length o8 l.length cd9]) (v := .one (rowC k5 d6 L7.length o8 l.length cd9)) (On.at hs2 1 rfl) (by kernel_rfl) (by kernel_rfl) (by kernel_rfl) (by kernel_rfl)) (And.intro (ob_out (M := [q]) (H := H) (H' := H25) (H2 := (backH [q] H H25)) (mayHide1 (On.at hs2 1 rfl) (by have g0 := lt_of_get (On.at hs2 2 rfl); simp [O.inH, C.inH, g0])) (ob_call (P := pg) (A := an) (H := (hideH [q] H)) (g := 28) (vals := [.y (.one (rowC k5 d6 L7.length o8 l.length cd9))]) (xs0 := [.one (rowC k5 d6 L7.length o8 l.length cd9)]) (res := [.one (rowC k24 0 l.length 0 l.length true)]) (ats := #[]) (ty := 0) (v := .y (.one (rowC k24 0 l.length 0 l.length true))) (H' := H25) [.tmp 0] (by kernel_rfl) (by kernel_rfl) hr26 (by kernel_rfl)) rfl) (And.intro (ob_box (P := pg) (A := an) (H := (backH [q] H H25)) (t := 57) (ty := 0) (n := n28) (v := .agg [vi room, rowC k24 0 l.length 0 l.length true]) (cs := [vi room, rowC k24 0 l.length 0 l.length true]) hn28 (by kernel_rfl) (by kernel_rfl) (by kernel_rfl)) trivial)))) (by kernel_rfl)) (by kernel_rfl) ?_
  refine Wp.gen (cs := [R, pts q (.obj [vi room, rowC k5 d6 L7.length o8 l.length cd9]), pts k5 (rowO NI true d6 L7), pts k24 (rowO NI true 0 l), pts n28 (.obj [vi room, rowC k24 0 l.length 0 l.length true])]) (On.new' hn28 (.obj [vi room, rowC k24 0 l.length 0 l.length true]) (On.back1 hs27 1 rfl (On.at hs2 1 rfl))) ?_
  intro H29 hs30
  refine Wp.ret ?_
  refine ⟨Or.inr rfl, [.one (.ptr n28 0)], (by kernel_rfl), ?_⟩
  have hs31 : On [R, pts k24 (rowO NI true 0 l), pts n28 (.obj [vi room, rowC k24 0 l.length 0 l.length true]), ringP NI q room l] H29 := On.shut (cs := [R, pts q (.obj [vi room, rowC k5 d6 L7.length o8 l.length cd9]), pts k5 (rowO NI true d6 L7), pts k24 (rowO NI true 0 l), pts n28 (.obj [vi room, rowC k24 0 l.length 0 l.length true])]) [1, 2] [0, 3, 4] rfl (fun _ x => ring_row ⟨by omega, by omega, by first | rfl | omega | (simp only [List.length_nil]; omega) | (simp; done) | (simp; omega)⟩ (by first | rfl | omega | (simp only [List.length_nil]; omega) | (simp; done) | (simp; omega)) (by first | rfl | omega | (simp only [List.length_nil]; omega) | (simp; done) | (simp; omega)) (fun h => by have := hc11 h; first | rfl | omega | (simp only [List.length_nil]; omega) | (simp; done) | (simp; omega)) (hl12) x) hs30
  have hs32 : On [R, ringP NI q room l, ringP NI n28 room l] H29 := On.shut (cs := [R, pts k24 (rowO NI true 0 l), pts n28 (.obj [vi room, rowC k24 0 l.length 0 l.length true]), ringP NI q room l]) [2, 1] [0, 3] rfl (fun _ x => ring_row ⟨by omega, by omega, by first | rfl | omega | (simp only [List.length_nil]; omega) | (simp; done) | (simp; omega)⟩ (by first | rfl | omega | (simp only [List.length_nil]; omega) | (simp; done) | (simp; omega)) (by first | rfl | omega | (simp only [List.length_nil]; omega) | (simp; done) | (simp; omega)) (fun h => by cases h) (dt0 rfl (Nat.le_refl _)) x) hs31
  exact ⟨n28, rfl, (On.pick [0, 1, 2] [] rfl hs32)⟩
theorem cut_neg (R : HP) (H : Go.Lg.Heap) (q : Nat) (room : Int) (l : List Int) (i : Int) (hs : On [R, ringP NI q room l] H) (h0 : i < 0) : ∃ rs H', Runs pg an 20 [.one (.ptr q 0), .one (vi i)] H rs H' ∧ rs = [.one (.sl false true true [] 0), .one (vi 1)] ∧ On [R, ringP NI q room l] H' := by
 obtain ⟨⟨hb3a, hb3b, hb3c⟩, ⟨hl4, hs1⟩ | ⟨k5, d6, L7, o8, cd9, ho10, hc11, hl12, hs2⟩⟩ := ring_open hs 1 rfl
 ·
  have hl4n : (l.length : Int) = 0 := by rw [hl4]; rfl
  refine Runs.of (fn := Try.f20) Try.func20 rfl (by kernel_rfl) [(0, .y (.one (.ptr q 0))), (1, xi i)] (by kernel_rfl) ?_
  refine Wp.regionSeq [] [(0, .y (.one (.ptr q 0))), (1, xi i)] H
    (cast trivial (by kernel_rfl)) (by kernel_rfl) ?_
  refine Wp.seq ?_
  have hcall13 : Runs pg an 27 [.one (.ptr q 0)] H [.one (vb true)] H := by
   refine runs_of ?_
   refine Runs.of (fn := Try.f27) Try.func27 rfl (by kernel_rfl) [(0, .y (.one (.ptr q 0)))] (by kernel_rfl) ?_
   refine Wp.regionSeq [] [(0, .y (.one (.ptr q 0)))] H
     (cast trivial (by kernel_rfl)) (by kernel_rfl) ?_
   refine Wp.regionSeq [(6, xi room, H), (7, xb true, H)] [(2, xb true)] H
     (cast (And.intro (ob_load_ptr (P := pg) (A := an) (H := H) (t := 3) (ty := 0) (id := q) (off := 0) (n := 1) (cs := [vi room, .sl false true true [] 0]) (cs' := [vi room]) (v := .one (vi room)) (On.at hs1 1 rfl) (by kernel_rfl) (by kernel_rfl) (by kernel_rfl) (by kernel_rfl)) (And.intro (ob_raw (P := pg) (A := an) (vals := [xi room, xi 0]) (H := H) (op := .binOp .gtr 3 (.tmp 0) (.tmp 1) 3) (ty := 0) (r := xb (decide ((room : Int) > 0))) (v := xb true) (by kernel_rfl) (congrArg (fun z => xb z) (decide_eq_true (by omega)))) trivial)) (by kernel_rfl)) (by kernel_rfl) ?_
   refine Wp.ret ?_
   exact ⟨Or.inr rfl, [.one (vb true)], (by kernel_rfl), ⟨rfl, rfl⟩⟩
  refine Wp.regionSeq [(1, xb true, H), (5, xb true, H)] [(0, .y (.one (.ptr q 0))), (1, xi i), (14, xb true)] H
    (cast (And.intro (ob_call (P := pg) (A := an) (H := H) (g := 27) (vals := [.y (.one (.ptr q 0))]) (xs0 := [.one (.ptr q 0)]) (res := [.one (vb true)]) (ats := #[]) (ty := 0) (v := xb true) (H' := H) [.tmp 0] (by kernel_rfl) (by kernel_rfl) hcall13 (by kernel_rfl)) (And.intro (ob_raw (P := pg) (A := an) (vals := [xi i, xi 0]) (H := H) (op := .binOp .lss 3 (.tmp 0) (.tmp 1) 3) (ty := 0) (r := xb (decide ((i : Int) < 0))) (v := xb true) (by kernel_rfl) (congrArg (fun z => xb z) (decide_eq_true (by omega)))) trivial)) (by kernel_rfl)) (by kernel_rfl) ?_
  refine Wp.condT (by kernel_rfl) ?_
  refine Wp.regionSeq [] [(4, .y (.one (.sl false true true [] 0))), (5, xi 1)] H
    (cast trivial (by kernel_rfl)) (by kernel_rfl) ?_
  refine Wp.ret ?_
  refine ⟨Or.inr rfl, [.one (.sl false true true [] 0), .one (vi 1)], (by kernel_rfl), ?_⟩
  have hs14 : On [R, ringP NI q room l] H := On.shut (cs := [R, pts q (.obj [vi room, .sl false true true [] 0])]) [1] [0] rfl (fun _ x => ring_nil' (hl4) ⟨by omega, by omega⟩ x) hs1
  exact ⟨rfl, (On.pick [0, 1] [] rfl hs14)⟩
 ·
  refine Runs.of (fn := Try.f20) Try.func20 rfl (by kernel_rfl) [(0, .y (.one (.ptr q 0))), (1, xi i)] (by kernel_rfl) ?_
  refine Wp.regionSeq [] [(0, .y (.one (.ptr q 0))), (1, xi i)] H
    (cast trivial (by kernel_rfl)) (by kernel_rfl) ?_
  refine Wp.seq ?_
  have hcall15 : Runs pg an 27 [.one (.ptr q 0)] H [.one (vb true)] H := by
   refine runs_of ?_
   refine Runs.of (fn := Try.f27) Try.func27 rfl (by kernel_rfl) [(0, .y (.one (.ptr q 0)))] (by kernel_rfl) ?_
   refine Wp.regionSeq [] [(0, .y (.one (.ptr q 0)))] H
     (cast trivial (by kernel_rfl)) (by kernel_rfl) ?_
   refine Wp.regionSeq [(6, xi room, H), (7, xb true, H)] [(2, xb true)] H
     (cast (And.intro (ob_load_ptr (P := pg) (A := an) (H := H) (t := 3) (ty := 0) (id := q) (off := 0) (n := 1) (cs := [vi room, rowC k5 d6 L7.length o8 l.length cd9]) (cs' := [vi room]) (v := .one (vi room)) (On.at hs2 1 rfl) (by kernel_rfl) (by kernel_rfl) (by kernel_rfl) (by kernel_rfl)) (And.intro (ob_raw (P := pg) (A := an) (vals := [xi room, xi 0]) (H := H) (op := .binOp .gtr 3 (.tmp 0) (.tmp 1) 3) (ty := 0) (r := xb (decide ((room : Int) > 0))) (v := xb true) (by kernel_rfl) (congrArg (fun z => xb z) (decide_eq_true (by omega)))) trivial)) (by kernel_rfl)) (by kernel_rfl) ?_
   refine Wp.ret ?_
   exact ⟨Or.inr rfl, [.one (vb true)], (by kernel_rfl), ⟨rfl, rfl⟩⟩
  refine Wp.regionSeq [(1, xb true, H), (5, xb true, H)] [(0, .y (.one (.ptr q 0))), (1, xi i), (14, xb true)] H
    (cast (And.intro (ob_call (P := pg) (A := an) (H := H) (g := 27) (vals := [.y (.one (.ptr q 0))]) (xs0 := [.one (.ptr q 0)]) (res := [.one (vb true)]) (ats := #[]) (ty := 0) (v := xb true) (H' := H) [.tmp 0] (by kernel_rfl) (by kernel_rfl) hcall15 (by kernel_rfl)) (And.intro (ob_raw (P := pg) (A := an) (vals := [xi i, xi 0]) (H := H) (op := .binOp .lss 3 (.tmp 0) (.tmp 1) 3) (ty := 0) (r := xb (decide ((i : Int) < 0))) (v := xb true) (by kernel_rfl) (congrArg (fun z => xb z) (decide_eq_true (by omega)))) trivial)) (by kernel_rfl)) (by kernel_rfl) ?_
  refine Wp.condT (by kernel_rfl) ?_
  refine Wp.regionSeq [] [(4, .y (.one (.sl false true true [] 0))), (5, xi 1)] H
    (cast trivial (by kernel_rfl)) (by kernel_rfl) ?_
  refine Wp.ret ?_
  refine ⟨Or.inr rfl, [.one (.sl false true true [] 0), .one (vi 1)], (by kernel_rfl), ?_⟩
  have hs16 : On [R, ringP NI q room l] H := On.shut (cs := [R, pts q (.obj [vi room, rowC k5 d6 L7.length o8 l.length cd9]), pts k5 (rowO NI true d6 L7)]) [1, 2] [0] rfl (fun _ x => ring_row ⟨by omega, by omega, by first | rfl | omega | (simp only [List.length_nil]; omega) | (simp; done) | (simp; omega)⟩ (by first | rfl | omega | (simp only [List.length_nil]; omega) | (simp; done) | (simp; omega)) (by first | rfl | omega | (simp only [List.length_nil]; omega) | (simp; done) | (simp; omega)) (fun h => by have := hc11 h; first | rfl | omega | (simp only [List.length_nil]; omega) | (simp; done) | (simp; omega)) (hl12) x) hs2
  exact ⟨rfl, (On.pick [0, 1] [] rfl hs16)⟩
theorem cut_none (R : HP) (H : Go.Lg.Heap) (q : Nat) (room : Int) (l : List Int) (i : Int) (hs : On [R, ringP NI q room l] H) (h0 : l.length < i) (h1 : i ≤ 9223372036854775807) : ∃ rs H', Runs pg an 20 [.one (.ptr q 0), .one (vi i)] H rs H' ∧ rs = [.one (.sl false true true [] 0), .one (vi 3)] ∧ On [R, ringP NI q room l] H' := by
 obtain ⟨⟨hb3a, hb3b, hb3c⟩, ⟨hl4, hs1⟩ | ⟨k5, d6, L7, o8, cd9, ho10, hc11, hl12, hs2⟩⟩ := ring_open hs 1 rfl
 ·
  have hl4n : (l.length : Int) = 0 := by rw [hl4]; rfl
  refine Runs.of (fn := Try.f20) Try.func20 rfl (by kernel_rfl) [(0, .y (.one (.ptr q 0))), (1, xi i)] (by kernel_rfl) ?_
  refine Wp.regionSeq [] [(0, .y (.one (.ptr q 0))), (1, xi i)] H
    (cast trivial (by kernel_rfl)) (by kernel_rfl) ?_
  refine Wp.seq ?_
  have hcall13 : Runs pg an 27 [.one (.ptr q 0)] H [.one (vb true)] H := by
   refine runs_of ?_
   refine Runs.of (fn := Try.f27) Try.func27 rfl (by kernel_rfl) [(0, .y (.one (.ptr q 0)))] (by kernel_rfl) ?_
   refine Wp.regionSeq [] [(0, .y (.one (.ptr q 0)))] H
     (cast trivial (by kernel_rfl)) (by kernel_rfl) ?_
   refine Wp.regionSeq [(6, xi room, H), (7, xb true, H)] [(2, xb true)] H
     (cast (And.intro (ob_load_ptr (P := pg) (A := an) (H := H) (t := 3) (ty := 0) (id := q) (off := 0) (n := 1) (cs := [vi room, .sl false true true [] 0]) (cs' := [vi room]) (v := .one (vi room)) (On.at hs1 1 rfl) (by kernel_rfl) (by kernel_rfl) (by kernel_rfl) (by kernel_rfl)) (And.intro (ob_raw (P := pg) (A := an) (vals := [xi room, xi 0]) (H := H) (op := .binOp .gtr 3 (.tmp 0) (.tmp 1) 3) (ty := 0) (r := xb (decide ((room : Int) > 0))) (v := xb true) (by kernel_rfl) (congrArg (fun z => xb z) (decide_eq_true (by omega)))) trivial)) (by kernel_rfl)) (by kernel_rfl) ?_
   refine Wp.ret ?_
   exact ⟨Or.inr rfl, [.one (vb true)], (by kernel_rfl), ⟨rfl, rfl⟩⟩
  refine Wp.regionSeq [(1, xb true, H), (5, xb false, H)] [(0, .y (.one (.ptr q 0))), (1, xi i), (14, xb false)] H
    (cast (And.intro (ob_call (P := pg) (A := an) (H := H) (g := 27) (vals := [.y (.one (.ptr q 0))]) (xs0 := [.one (.ptr q 0)]) (res := [.one (vb true)]) (ats := #[]) (ty := 0) (v := xb true) (H' := H) [.tmp 0] (by kernel_rfl) (by kernel_rfl) hcall13 (by kernel_rfl)) (And.intro (ob_raw (P := pg) (A := an) (vals := [xi i, xi 0]) (H := H) (op := .binOp .lss 3 (.tmp 0) (.tmp 1) 3) (ty := 0) (r := xb (decide ((i : Int) < 0))) (v := xb false) (by kernel_rfl) (congrArg (fun z => xb z) (decide_eq_false (by omega)))) trivial)) (by kernel_rfl)) (by kernel_rfl) ?_
  refine Wp.condF (by kernel_rfl) ?_
  refine Wp.skip ?_
  refine Wp.regionSeq [(3, .y (.one (.sl false true true [] 0)), H), (6, xi (-i), H)] [(0, .y (.one (.ptr q 0))), (6, xi (-i))] H
    (cast (And.intro (ob_load_ptr (P := pg) (A := an) (H := H) (t := 22) (ty := 0) (id := q) (off := 1) (n := 1) (cs := [vi room, .sl false true true [] 0]) (cs' := [.sl false true true [] 0]) (v := .one (.sl false true true [] 0)) (On.at hs1 1 rfl) (by kernel_rfl) (by kernel_rfl) (by kernel_rfl) (by kernel_rfl)) (And.intro (ob_raw (P := pg) (A := an) (vals := [xi 0, xi i]) (H := H) (op := .binOp .sub 3 (.tmp 0) (.tmp 1) 3) (ty := 0) (r := xi (IntKind.wrap .i64 (0 - i))) (v := xi (-i)) (by kernel_rfl) (congrArg (fun z => xi z) ((wrap64 (by omega)).trans (by omega)))) trivial)) (by kernel_rfl)) (by kernel_rfl) ?_
  refine Wp.seq ?_
  refine Wp.regionSeq [(1, xb true, H)] [(0, .y (.one (.ptr q 0))), (6, xi (-i)), (23, xb true)] H
    (cast (And.intro (ob_raw (P := pg) (A := an) (vals := [xi (-i), xi 0]) (H := H) (op := .binOp .lss 3 (.tmp 0) (.tmp 1) 3) (ty := 0) (r := xb (decide (((-i) : Int) < 0))) (v := xb true) (by kernel_rfl) (congrArg (fun z => xb z) (decide_eq_true (by omega)))) trivial) (by kernel_rfl)) (by kernel_rfl) ?_
  refine Wp.condT (by kernel_rfl) ?_
  refine Wp.regionSeq [] [(4, .y (.one (.sl false true true [] 0))), (5, xi 3)] H
    (cast trivial (by kernel_rfl)) (by kernel_rfl) ?_
  refine Wp.ret ?_
  refine ⟨Or.inr rfl, [.one (.sl false true true [] 0), .one (vi 3)], (by kernel_rfl), ?_⟩
  have hs14 : On [R, ringP NI q room l] H := On.shut (cs := [R, pts q (.obj [vi room, .sl false true true [] 0])]) [1] [0] rfl (fun _ x => ring_nil' (hl4) ⟨by omega, by omega⟩ x) hs1
  exact ⟨rfl, (On.pick [0, 1] [] rfl hs14)⟩
 ·
  refine Runs.of (fn := Try.f20) Try.func20 rfl (by kernel_rfl) [(0, .y (.one (.ptr q 0))), (1, xi i)] (by kernel_rfl) ?_
  refine Wp.regionSeq [] [(0, .y (.one (.ptr q 0))), (1, xi i)] H
    (cast trivial (by kernel_rfl)) (by kernel_rfl) ?_
  refine Wp.seq ?_
  have hcall15 : Runs pg an 27 [.one (.ptr q 0)] H [.one (vb true)] H := by
   refine runs_of ?_
   refine Runs.of (fn := Try.f27) Try.func27 rfl (by kernel_rfl) [(0, .y (.one (.ptr q 0)))] (by kernel_rfl) ?_
   refine Wp.regionSeq [] [(0, .y (.one (.ptr q 0)))] H
     (cast trivial (by kernel_rfl)) (by kernel_rfl) ?_
   refine Wp.regionSeq [(6, xi room, H), (7, xb true, H)] [(2, xb true)] H
     (cast (And.intro (ob_load_ptr (P := pg) (A := an) (H := H) (t := 3) (ty := 0) (id := q) (off := 0) (n := 1) (cs := [vi room, rowC k5 d6 L7.length o8 l.length cd9]) (cs' := [vi room]) (v := .one (vi room)) (On.at hs2 1 rfl) (by kernel_rfl) (by kernel_rfl) (by kernel_rfl) (by kernel_rfl)) (And.intro (ob_raw (P := pg) (A := an) (vals := [xi room, xi 0]) (H := H) (op := .binOp .gtr 3 (.tmp 0) (.tmp 1) 3) (ty := 0) (r := xb (decide ((room : Int) > 0))) (v := xb true) (by kernel_rfl) (congrArg (fun z => xb z) (decide_eq_true (by omega)))) trivial)) (by kernel_rfl)) (by kernel_rfl) ?_
   refine Wp.ret ?_
   exact ⟨Or.inr rfl, [.one (vb true)], (by kernel_rfl), ⟨rfl, rfl⟩⟩
  refine Wp.regionSeq [(1, xb true, H), (5, xb false, H)] [(0, .y (.one (.ptr q 0))), (1, xi i), (14, xb false)] H
    (cast (And.intro (ob_call (P := pg) (A := an) (H := H) (g := 27) (vals := [.y (.one (.ptr q 0))]) (xs0 := [.one (.ptr q 0)]) (res := [.one (vb true)]) (ats := #[]) (ty := 0) (v := xb true) (H' := H) [.tmp 0] (by kernel_rfl) (by kernel_rfl) hcall15 (by kernel_rfl)) (And.intro (ob_raw (P := pg) (A := an) (vals := [xi i, xi 0]) (H := H) (op := .binOp .lss 3 (.tmp 0) (.tmp 1) 3) (ty := 0) (r := xb (decide ((i : Int) < 0))) (v := xb false) (by kernel_rfl) (congrArg (fun z => xb z) (decide_eq_false (by omega)))) trivial)) (by kernel_rfl)) (by kernel_rfl) ?_
  refine Wp.condF (by kernel_rfl) ?_
  refine Wp.skip ?_
  refine Wp.regionSeq [(3, .y (.one (rowC k5 d6 L7.length o8 l.length cd9)), H), (4, xi (l.length : Int), H), (6, xi ((l.length : Int) - i), H)] [(0, .y (.one (.ptr q 0))), (6, xi ((l.length : Int) - i))] H
    (cast (And.intro (ob_load_ptr (P := pg) (A := an) (H := H) (t := 22) (ty := 0) (id := q) (off := 1) (n := 1) (cs := [vi room, rowC k5 d6 L7.length o8 l.length cd9]) (cs' := [rowC k5 d6 L7.length o8 l.length cd9]) (v := .one (rowC k5 d6 L7.length o8 l.length cd9)) (On.at hs2 1 rfl) (by kernel_rfl) (by kernel_rfl) (by kernel_rfl) (by kernel_rfl)) (And.intro (or_len (P := pg) (A := an) (H := H) (s := NI) (t := 22) (ty := 0) (pu := true) (capd := cd9) (id := k5) (d := d6) (o := o8) (n := l.length) (l := L7) (e := (l.length : Int)) (On.at hs2 2 rfl) (by kernel_rfl) (by first | rfl | omega | (simp only [List.length_nil]; omega) | (simp; done) | (simp; omega))) (And.intro (ob_raw (P := pg) (A := an) (vals := [xi (l.length : Int), xi i]) (H := H) (op := .binOp .sub 3 (.tmp 0) (.tmp 1) 3) (ty := 0) (r := xi (IntKind.wrap .i64 ((l.length : Int) - i))) (v := xi ((l.length : Int) - i)) (by kernel_rfl) (congrArg (fun z => xi z) ((wrap64 (by omega)).trans (by omega)))) trivial))) (by kernel_rfl)) (by kernel_rfl) ?_
  refine Wp.seq ?_
  refine Wp.regionSeq [(1, xb true, H)] [(0, .y (.one (.ptr q 0))), (6, xi ((l.length : Int) - i)), (23, xb true)] H
    (cast (And.intro (ob_raw (P := pg) (A := an) (vals := [xi ((l.length : Int) - i), xi 0]) (H := H) (op := .binOp .lss 3 (.tmp 0) (.tmp 1) 3) (ty := 0) (r := xb (decide ((((l.length : Int) - i) : Int) < 0))) (v := xb true) (by kernel_rfl) (congrArg (fun z => xb z) (decide_eq_true (by omega)))) trivial) (by kernel_rfl)) (by kernel_rfl) ?_
  refine Wp.condT (by kernel_rfl) ?_
  refine Wp.regionSeq [] [(4, .y (.one (.sl false true true [] 0))), (5, xi 3)] H
    (cast trivial (by kernel_rfl)) (by kernel_rfl) ?_
  refine Wp.ret ?_
  refine ⟨Or.inr rfl, [.one (.sl false true true [] 0), .one (vi 3)], (by kernel_rfl), ?_⟩
  have hs16 : On [R, ringP NI q room l] H := On.shut (cs := [R, pts q (.obj [vi room, rowC k5 d6 L7.length o8 l.length cd9]), pts k5 (rowO NI true d6 L7)]) [1, 2] [0] rfl (fun _ x => ring_row ⟨by omega, by omega, by first | rfl | omega | (simp only [List.length_nil]; omega) | (simp; done) | (simp; omega)⟩ (by first | rfl | omega | (simp only [List.length_nil]; omega) | (simp; done) | (simp; omega)) (by first | rfl | omega | (simp only [List.length_nil]; omega) | (simp; done) | (simp; omega)) (fun h => by have := hc11 h; first | rfl | omega | (simp only [List.length_nil]; omega) | (simp; done) | (simp; omega)) (hl12) x) hs2
  exact ⟨rfl, (On.pick [0, 1] [] rfl hs16)⟩
theorem cut_ok (R : HP) (H : Go.Lg.Heap) (q : Nat) (room : Int) (l : List Int) (i : Int) (hs : On [R, ringP NI q room l] H) (h0 : 0 ≤ i) (h1 : i ≤ l.length) : ∃ rs H', Runs pg an 20 [.one (.ptr q 0), .one (vi i)] H rs H' ∧ ∃ k', rs = [.one (rowC k' 0 (l.drop ((l.length : Int) - i).toNat).length 0 (l.drop ((l.length : Int) - i).toNat).length true), .one (vi 0)] ∧ On [R, ringP NI q room (l.take ((l.length : Int) - i).toNat), pts k' (rowO NI true 0 (l.drop ((l.length : Int) - i).toNat))] H' := by
 have hle1 : ((l.take ((l.length : Int) - i).toNat).length : Int) = l.length - i := by rw [List.length_take]; omega
 obtain ⟨⟨hb3a, hb3b, hb3c⟩, ⟨hl4, hs1⟩ | ⟨k5, d6, L7, o8, cd9, ho10, hc11, hl12, hs2⟩⟩ := ring_open hs 1 rfl
 ·
  have hl4n : (l.length : Int) = 0 := by rw [hl4]; rfl
  refine Runs.of (fn := Try.f20) Try.func20 rfl (by kernel_rfl) [(0, .y (.one (.ptr q 0))), (1, xi i)] (by kernel_rfl) ?_
  refine Wp.regionSeq [] [(0, .y (.one (.ptr q 0))), (1, xi i)] H
    (cast trivial (by kernel_rfl)) (by kernel_rfl) ?_
  refine Wp.seq ?_
  have hcall13 : Runs pg an 27 [.one (.ptr q 0)] H [.one (vb true)] H := by
   refine runs_of ?_
   refine Runs.of (fn := Try.f27) Try.func27 rfl (by kernel_rfl) [(0, .y (.one (.ptr q 0)))] (by kernel_rfl) ?_
   refine Wp.regionSeq [] [(0, .y (.one (.ptr q 0)))] H
     (cast trivial (by kernel_rfl)) (by kernel_rfl) ?_
   refine Wp.regionSeq [(6, xi room, H), (7, xb true, H)] [(2, xb true)] H
     (cast (And.intro (ob_load_ptr (P := pg) (A := an) (H := H) (t := 3) (ty := 0) (id := q) (off := 0) (n := 1) (cs := [vi room, .sl false true true [] 0]) (cs' := [vi room]) (v := .one (vi room)) (On.at hs1 1 rfl) (by kernel_rfl) (by kernel_rfl) (by kernel_rfl) (by kernel_rfl)) (And.intro (ob_raw (P := pg) (A := an) (vals := [xi room, xi 0]) (H := H) (op := .binOp .gtr 3 (.tmp 0) (.tmp 1) 3) (ty := 0) (r := xb (decide ((room : Int) > 0))) (v := xb true) (by kernel_rfl) (congrArg (fun z => xb z) (decide_eq_true (by omega)))) trivial)) (by kernel_rfl)) (by kernel_rfl) ?_
   refine Wp.ret ?_
   exact ⟨Or.inr rfl, [.one (vb true)], (by kernel_rfl), ⟨rfl, rfl⟩⟩
  refine Wp.regionSeq [(1, xb true, H), (5, xb false, H)] [(0, .y (.one (.ptr q 0))), (1, xi i), (14, xb false)] H
    (cast (And.intro (ob_call (P := pg) (A := an) (H := H) (g := 27) (vals := [.y (.one (.ptr q 0))]) (xs0 := [.one (.ptr q 0)]) (res := [.one (vb true)]) (ats := #[]) (ty := 0) (v := xb true) (H' := H) [.tmp 0] (by kernel_rfl) (by kernel_rfl) hcall13 (by kernel_rfl)) (And.intro (ob_raw (P := pg) (A := an) (vals := [xi i, xi 0]) (H := H) (op := .binOp .lss 3 (.tmp 0) (.tmp 1) 3) (ty := 0) (r := xb (decide ((i : Int) < 0))) (v := xb false) (by kernel_rfl) (congrArg (fun z => xb z) (decide_eq_false (by omega)))) trivial)) (by kernel_rfl)) (by kernel_rfl) ?_
  refine Wp.condF (by kernel_rfl) ?_
  refine Wp.skip ?_
  refine Wp.regionSeq [(3, .y (.one (.sl false true true [] 0)), H), (6, xi (-i), H)] [(0, .y (.one (.ptr q 0))), (6, xi (-i))] H
    (cast (And.intro (ob_load_ptr (P := pg) (A := an) (H := H) (t := 22) (ty := 0) (id := q) (off := 1) (n := 1) (cs := [vi room, .sl false true true [] 0]) (cs' := [.sl false true true [] 0]) (v := .one (.sl false true true [] 0)) (On.at hs1 1 rfl) (by kernel_rfl) (by kernel_rfl) (by kernel_rfl) (by kernel_rfl)) (And.intro (ob_raw (P := pg) (A := an) (vals := [xi 0, xi i]) (H := H) (op := .binOp .sub 3 (.tmp 0) (.tmp 1) 3) (ty := 0) (r := xi (IntKind.wrap .i64 (0 - i))) (v := xi (-i)) (by kernel_rfl) (congrArg (fun z => xi z) ((wrap64 (by omega)).trans (by omega)))) trivial)) (by kernel_rfl)) (by kernel_rfl) ?_
  refine Wp.seq ?_
  refine Wp.regionSeq [(1, xb false, H)] [(0, .y (.one (.ptr q 0))), (6, xi (-i)), (23, xb false)] H
    (cast (And.intro (ob_raw (P := pg) (A := an) (vals := [xi (-i), xi 0]) (H := H) (op := .binOp .lss 3 (.tmp 0) (.tmp 1) 3) (ty := 0) (r := xb (decide (((-i) : Int) < 0))) (v := xb false) (by kernel_rfl) (congrArg (fun z => xb z) (decide_eq_false (by omega)))) trivial) (by kernel_rfl)) (by kernel_rfl) ?_
  refine Wp.condF (by kernel_rfl) ?_
  refine Wp.skip ?_
  obtain ⟨_, H15, hr16, k14, rfl, hs17⟩ := own_nil _ (H : Go.Lg.Heap) (On.call [] [0, 1] rfl hs1) 
  have hs17 : On [R, pts q (.obj [vi room, .sl false true true [] 0]), pts k14 (rowO NI true 0 ([] : List Int))] H15 := On.flat hs17
  refine Wp.regionSeq [(3, .y (.one (.sl false true true [] 0)), H), (5, .y (.one (sv NI false true true ([] : List Int))), H), (6, .y (.one (rowC k14 0 ([] : List Int).length 0 (([] : List Int).length) true)), H15)] [(0, .y (.one (.ptr q 0))), (6, xi (-i)), (7, .y (.one (rowC k14 0 ([] : List Int).length 0 (([] : List Int).length) true)))] H15
    (cast (And.intro (ob_load_ptr (P := pg) (A := an) (H := H) (t := 22) (ty := 0) (id := q) (off := 1) (n := 1) (cs := [vi room, .sl false true true [] 0]) (cs' := [.sl false true true [] 0]) (v := .one (.sl false true true [] 0)) (On.at hs1 1 rfl) (by kernel_rfl) (by kernel_rfl) (by kernel_rfl) (by kernel_rfl)) (And.intro (ob_slice_sll (P := pg) (A := an) (H := H) (s := NI) (t := 22) (el := 3) (ty := 0) (b := false) (nil := true) (capd := true) (l := ([] : List Int)) (m := ([] : List Int)) (a := (-i)) (by kernel_rfl) (by kernel_rfl) (by first | omega | (simp; done) | (simp; omega)) (by first | omega | (simp; done) | (simp; omega)) (by first | rfl | (apply List.ext_getElem?; intro i; first | (simp only [List.nil_append, List.append_nil, List.drop_zero, Nat.zero_add, List.getElem?_take, List.getElem?_drop, List.getElem?_append, List.length_take, List.length_drop, List.length_append, List.length_nil, List.getElem?_nil, Int.toNat_natCast]; done) | ((try simp only [List.nil_append, List.append_nil, List.drop_zero, Nat.zero_add, List.getElem?_take, List.getElem?_drop, List.getElem?_append, List.length_take, List.length_drop, List.length_append, List.length_nil, List.getElem?_nil, Int.toNat_natCast]); (repeat' split) <;> first | rfl | (congr 1; omega) | (exfalso; omega) | (exact List.getElem?_eq_none (by omega)) | (exact (List.getElem?_eq_none (by omega)).symm))))) (And.intro (ob_call (P := pg) (A := an) (H := H) (g := 28) (vals := [.y (.one (sv NI false true true ([] : List Int)))]) (xs0 := [.one (sv NI false true true ([] : List Int))]) (res := [.one (rowC k14 0 ([] : List Int).length 0 (([] : List Int).length) true)]) (ats := #[]) (ty := 0) (v := .y (.one (rowC k14 0 ([] : List Int).length 0 (([] : List Int).length) true))) (H' := H15) [.tmp 0] (by kernel_rfl) (by kernel_rfl) hr16 (by kernel_rfl)) trivial))) (by kernel_rfl)) (by kernel_rfl) ?_
  refine Wp.gen (cs := [R, pts q (.obj [vi room, .sl false true true [] 0]), pts k14 (rowO NI true 0 ([] : List Int))]) hs17 ?_
  intro H18 hs19
  refine Wp.regionSeq [(4, .y (.one (.sl false true true [] 0)), H18), (7, .y (.one (sv NI false true true ([] : List Int))), H18), (10, .tup [], (List.set (α := O) H18 q (.obj [vi room, sv NI false true true ([] : List Int)])))] [(7, .y (.one (rowC k14 0 ([] : List Int).length 0 (([] : List Int).length) true)))] (List.set (α := O) H18 q (.obj [vi room, sv NI false true true ([] : List Int)]))
    (cast (And.intro (ob_load_ptr (P := pg) (A := an) (H := H18) (t := 22) (ty := 0) (id := q) (off := 1) (n := 1) (cs := [vi room, .sl false true true [] 0]) (cs' := [.sl false true true [] 0]) (v := .one (.sl false true true [] 0)) (On.at hs19 1 rfl) (by kernel_rfl) (by kernel_rfl) (by kernel_rfl) (by kernel_rfl)) (And.intro (ob_slice_slc (P := pg) (A := an) (H := H18) (s := NI) (t := 22) (el := 3) (ty := 0) (b := false) (nil := true) (capd := true) (l := ([] : List Int)) (m := ([] : List Int)) (h := (-i)) (by kernel_rfl) (by kernel_rfl) (by first | omega | (simp; done) | (simp; omega)) (by first | omega | (simp; done) | (simp; omega)) (by first | rfl | (apply List.ext_getElem?; intro i; first | (simp only [List.nil_append, List.append_nil, List.drop_zero, Nat.zero_add, List.getElem?_take, List.getElem?_drop, List.getElem?_append, List.length_take, List.length_drop, List.length_append, List.length_nil, List.getElem?_nil, Int.toNat_natCast]; done) | ((try simp only [List.nil_append, List.append_nil, List.drop_zero, Nat.zero_add, List.getElem?_take, List.getElem?_drop, List.getElem?_append, List.length_take, List.length_drop, List.length_append, List.length_nil, List.getElem?_nil, Int.toNat_natCast]); (repeat' split) <;> first | rfl | (congr 1; omega) | (exfalso; omega) | (exact List.getElem?_eq_none (by omega)) | (exact (List.getElem?_eq_none (by omega)).symm))))) (And.intro (ob_store_ptr (P := pg) (A := an) (H := H18) (t := 22) (ty := 0) (id := q) (off := 1) (cs := [vi room, .sl false true true [] 0]) (cs' := [vi room, sv NI false true true ([] : List Int)]) (v := .one (sv NI false true true ([] : List Int))) (On.at hs19 1 rfl) (by kernel_rfl) (by kernel_rfl) (by kernel_rfl)) trivial))) (by kernel_rfl)) (by kernel_rfl) ?_
  refine Wp.gen (cs := [R, pts q (.obj [vi room, sv NI false true true ([] : List Int)]), pts k14 (rowO NI true 0 ([] : List Int))]) (On.put (.obj [vi room, sv NI false true true ([] : List Int)]) hs19 1 rfl) ?_
  intro H20 hs21
  refine Wp.regionSeq [] [(4, .y (.one (rowC k14 0 ([] : List Int).length 0 (([] : List Int).length) true))), (5, xi 0)] H20
    (cast trivial (by kernel_rfl)) (by kernel_rfl) ?_
  refine Wp.ret ?_
  refine ⟨Or.inr rfl, [.one (rowC k14 0 ([] : List Int).length 0 (([] : List Int).length) true), .one (vi 0)], (by kernel_rfl), ?_⟩
  have e0 : (l.take ((l.length : Int) - i).toNat) = [] := by rw [hl4]; simp
  have hs22 : On [R, pts k14 (rowO NI true 0 ([] : List Int)), ringP NI q room (l.take ((l.length : Int) - i).toNat)] H20 := On.shut (cs := [R, pts q (.obj [vi room, sv NI false true true ([] : List Int)]), pts k14 (rowO NI true 0 ([] : List Int))]) [1] [0, 2] rfl (fun _ x => ring_nil' (e0) ⟨by omega, by omega⟩ x) hs21
  have e1 : ([] : List Int) = (l.drop ((l.length : Int) - i).toNat) := by rw [hl4]; simp
  have hs23 := (On.pick [0, 2, 1] [] rfl hs22)
  exact ⟨k14, congrArg (fun z : List Int => [Y.one (rowC k14 0 z.length 0 z.length true), .one (vi 0)]) e1, Eq.mp (congrArg (fun z : List Int => On [R, ringP NI q room (l.take ((l.length : Int) - i).toNat), pts k14 (rowO NI true 0 z)] _) e1) hs23⟩
 ·
  refine Runs.of (fn := Try.f20) Try.func20 rfl (by kernel_rfl) [(0, .y (.one (.ptr q 0))), (1, xi i)] (by kernel_rfl) ?_
  refine Wp.regionSeq [] [(0, .y (.one (.ptr q 0))), (1, xi i)] H
    (cast trivial (by kernel_rfl)) (by kernel_rfl) ?_
  refine Wp.seq ?_
  have hcall24 : Runs pg an 27 [.one (.ptr q 0)] H [.one (vb true)] H := by
   refine runs_of ?_
   refine Runs.of (fn := Try.f27) Try.func27 rfl (by kernel_rfl) [(0, .y (.one (.ptr q 0)))] (by kernel_rfl) ?_
   refine Wp.regionSeq [] [(0, .y (.one (.ptr q 0)))] H
     (cast trivial (by kernel_rfl)) (by kernel_rfl) ?_
   refine Wp.regionSeq [(6, xi room, H), (7, xb true, H)] [(2, xb true)] H
     (cast (And.intro (ob_load_ptr (P := pg) (A := an) (H := H) (t := 3) (ty := 0) (id := q) (off := 0) (n := 1) (cs := [vi room, rowC k5 d6 L7.length o8 l.length cd9]) (cs' := [vi room]) (v := .one (vi room)) (On.at hs2 1 rfl) (by kernel_rfl) (by kernel_rfl) (by kernel_rfl) (by kernel_rfl)) (And.intro (ob_raw (P := pg) (A := an) (vals := [xi room, xi 0]) (H := H) (op := .binOp .gtr 3 (.tmp 0) (.tmp 1) 3) (ty := 0) (r := xb (decide ((room : Int) > 0))) (v := xb true) (by kernel_rfl) (congrArg (fun z => xb z) (decide_eq_true (by omega)))) trivial)) (by kernel_rfl)) (by kernel_rfl) ?_
   refine Wp.ret ?_
   exact ⟨Or.inr rfl, [.one (vb true)], (by kernel_rfl), ⟨rfl, rfl⟩⟩
  refine Wp.regionSeq [(1, xb true, H), (5, xb false, H)] [(0, .y (.one (.ptr q 0))), (1, xi i), (14, xb false)] H
    (cast (And.intro (ob_call (P := pg) (A := an) (H := H) (g := 27) (vals := [.y (.one (.ptr q 0))]) (xs0 := [.one (.ptr q 0)]) (res := [.one (vb true)]) (ats := #[]) (ty := 0) (v := xb true) (H' := H) [.tmp 0] (by kernel_rfl) (by kernel_rfl) hcall24 (by kernel_rfl)) (And.intro (ob_raw (P := pg) (A := an) (vals := [xi i, xi 0]) (H := H) (op := .binOp .lss 3 (.tmp 0) (.tmp 1) 3) (ty := 0) (r := xb (decide ((i : Int) < 0))) (v := xb false) (by kernel_rfl) (congrArg (fun z => xb z) (decide_eq_false (by omega)))) trivial)) (by kernel_rfl)) (by kernel_rfl) ?_
  refine Wp.condF (by kernel_rfl) ?_
  refine Wp.skip ?_
  refine Wp.regionSeq [(3, .y (.one (rowC k5 d6 L7.length o8 l.length cd9)), H), (4, xi (l.length : Int), H), (6, xi ((l.length : Int) - i), H)] [(0, .y (.one (.ptr q 0))), (6, xi ((l.length : Int) - i))] H
    (cast (And.intro (ob_load_ptr (P := pg) (A := an) (H := H) (t := 22) (ty := 0) (id := q) (off := 1) (n := 1) (cs := [vi room, rowC k5 d6 L7.length o8 l.length cd9]) (cs' := [rowC k5 d6 L7.length o8 l.length cd9]) (v := .one (rowC k5 d6 L7.length o8 l.length cd9)) (On.at hs2 1 rfl) (by kernel_rfl) (by kernel_rfl) (by kernel_rfl) (by kernel_rfl)) (And.intro (or_len (P := pg) (A := an) (H := H) (s := NI) (t := 22) (ty := 0) (pu := true) (capd := cd9) (id := k5) (d := d6) (o := o8) (n := l.length) (l := L7) (e := (l.length : Int)) (On.at hs2 2 rfl) (by kernel_rfl) (by first | rfl | omega | (simp only [List.length_nil]; omega) | (simp; done) | (simp; omega))) (And.intro (ob_raw (P := pg) (A := an) (vals := [xi (l.length : Int), xi i]) (H := H) (op := .binOp .sub 3 (.tmp 0) (.tmp 1) 3) (ty := 0) (r := xi (IntKind.wrap .i64 ((l.length : Int) - i))) (v := xi ((l.length : Int) - i)) (by kernel_rfl) (congrArg (fun z => xi z) ((wrap64 (by omega)).trans (by omega)))) trivial))) (by kernel_rfl)) (by kernel_rfl) ?_
  refine Wp.seq ?_
  refine Wp.regionSeq [(1, xb false, H)] [(0, .y (.one (.ptr q 0))), (6, xi ((l.length : Int) - i)), (23, xb false)] H
    (cast (And.intro (ob_raw (P := pg) (A := an) (vals := [xi ((l.length : Int) - i), xi 0]) (H := H) (op := .binOp .lss 3 (.tmp 0) (.tmp 1) 3) (ty := 0) (r := xb (decide ((((l.length : Int) - i) : Int) < 0))) (v := xb false) (by kernel_rfl) (congrArg (fun z => xb z) (decide_eq_false (by omega)))) trivial) (by kernel_rfl)) (by kernel_rfl) ?_
  refine Wp.condF (by kernel_rfl) ?_
  refine Wp.skip ?_
  have hlfz25 : ((l.drop ((((l.length : Int) - i) : Int).toNat)).length : Int) = i := by { first | rfl | omega | (simp only [List.length_nil]; omega) | (simp; done) | (simp; omega) }
  obtain ⟨_, H28, hr29, k27, rfl, hs30⟩ := own_row _ (H : Go.Lg.Heap) (On.call [2] [0, 1] rfl hs2) (k := k5) (d := d6) (o := ((((o8 : Int) + (l.length : Int) - i) : Int).toNat)) (capd := cd9) (L := L7) (l := (l.drop ((((l.length : Int) - i) : Int).toNat))) (by first | rfl | omega | (simp only [List.length_nil]; omega) | (simp; done) | (simp; omega)) ((content_sub (a := ((((l.length : Int) - i) : Int).toNat)) (n' := (l.drop ((((l.length : Int) - i) : Int).toNat)).length) (hl12) (by first | rfl | omega | (simp only [List.length_nil]; omega) | (simp; done) | (simp; omega)) (by first | rfl | omega | (simp only [List.length_nil]; omega) | (simp; done) | (simp; omega))).trans (dt1 (by first | rfl | omega | (simp only [List.length_nil]; omega) | (simp; done) | (simp; omega)) (by first | rfl | omega | (simp only [List.length_nil]; omega) | (simp; done) | (simp; omega)))) (by first | rfl | omega | (simp only [List.length_nil]; omega) | (simp; done) | (simp; omega))
  have hs30 : On [R, pts q (.obj [vi room, rowC k5 d6 L7.length o8 l.length cd9]), pts k5 (rowO NI true d6 L7), pts k27 (rowO NI true 0 (l.drop ((((l.length : Int) - i) : Int).toNat)))] H28 := On.flat hs30
  refine Wp.regionSeq [(3, .y (.one (rowC k5 d6 L7.length o8 l.length cd9)), H), (5, .y (.one (rowC k5 d6 L7.length ((((o8 : Int) + (l.length : Int) - i) : Int).toNat) ((l.drop ((((l.length : Int) - i) : Int).toNat)).length) cd9)), H), (6, .y (.one (rowC k27 0 (l.drop ((((l.length : Int) - i) : Int).toNat)).length 0 ((l.drop ((((l.length : Int) - i) : Int).toNat)).length) true)), H28)] [(0, .y (.one (.ptr q 0))), (6, xi ((l.length : Int) - i)), (7, .y (.one (rowC k27 0 (l.drop ((((l.length : Int) - i) : Int).toNat)).length 0 ((l.drop ((((l.length : Int) - i) : Int).toNat)).length) true)))] H28
    (cast (And.intro (ob_load_ptr (P := pg) (A := an) (H := H) (t := 22) (ty := 0) (id := q) (off := 1) (n := 1) (cs := [vi room, rowC k5 d6 L7.length o8 l.length cd9]) (cs' := [rowC k5 d6 L7.length o8 l.length cd9]) (v := .one (rowC k5 d6 L7.length o8 l.length cd9)) (On.at hs2 1 rfl) (by kernel_rfl) (by kernel_rfl) (by kernel_rfl) (by kernel_rfl)) (And.intro (or_slicel (P := pg) (A := an) (H := H) (s := NI) (t := 22) (el := 3) (ty := 0) (pu := true) (id := k5) (d := d6) (o := o8) (n := l.length) (l := L7) (capd := cd9) (o' := ((((o8 : Int) + (l.length : Int) - i) : Int).toNat)) (n' := ((l.drop ((((l.length : Int) - i) : Int).toNat)).length)) (a := ((l.length : Int) - i)) (On.at hs2 2 rfl) (by kernel_rfl) (by kernel_rfl) (by omega) (by first | rfl | omega | (simp only [List.length_nil]; omega) | (simp; done) | (simp; omega)) (by first | rfl | omega | (simp only [List.length_nil]; omega) | (simp; done) | (simp; omega)) (by first | rfl | omega | (simp only [List.length_nil]; omega) | (simp; done) | (simp; omega)) (by first | rfl | omega | (simp only [List.length_nil]; omega) | (simp; done) | (simp; omega))) (And.intro (ob_call (P := pg) (A := an) (H := H) (g := 28) (vals := [.y (.one (rowC k5 d6 L7.length ((((o8 : Int) + (l.length : Int) - i) : Int).toNat) ((l.drop ((((l.length : Int) - i) : Int).toNat)).length) cd9))]) (xs0 := [.one (rowC k5 d6 L7.length ((((o8 : Int) + (l.length : Int) - i) : Int).toNat) ((l.drop ((((l.length : Int) - i) : Int).toNat)).length) cd9)]) (res := [.one (rowC k27 0 (l.drop ((((l.length : Int) - i) : Int).toNat)).length 0 ((l.drop ((((l.length : Int) - i) : Int).toNat)).length) true)]) (ats := #[]) (ty := 0) (v := .y (.one (rowC k27 0 (l.drop ((((l.length : Int) - i) : Int).toNat)).length 0 ((l.drop ((((l.length : Int) - i) : Int).toNat)).length) true))) (H' := H28) [.tmp 0] (by kernel_rfl) (by kernel_rfl) hr29 (by kernel_rfl)) trivial))) (by kernel_rfl)) (by kernel_rfl) ?_
  refine Wp.gen (cs := [R, pts q (.obj [vi room, rowC k5 d6 L7.length o8 l.length cd9]), pts k5 (rowO NI true d6 L7), pts k27 (rowO NI true 0 (l.drop ((((l.length : Int) - i) : Int).toNat)))]) hs30 ?_
  intro H32 hs33
  have hlfz34 : ((l.take ((((l.length : Int) - i) : Int).toNat)).length : Int) = ((l.length : Int) - i) := by { first | rfl | omega | (simp only [List.length_nil]; omega) | (simp; done) | (simp; omega) }
  refine Wp.regionSeq [(4, .y (.one (rowC k5 d6 L7.length o8 l.length cd9)), H32), (7, .y (.one (rowC k5 d6 L7.length o8 ((l.take ((((l.length : Int) - i) : Int).toNat)).length) true)), H32), (10, .tup [], (List.set (α := O) H32 q (.obj [vi room, rowC k5 d6 L7.length o8 ((l.take ((((l.length : Int) - i) : Int).toNat)).length) true])))] [(7, .y (.one (rowC k27 0 (l.drop ((((l.length : Int) - i) : Int).toNat)).length 0 ((l.drop ((((l.length : Int) - i) : Int).toNat)).length) true)))] (List.set (α := O) H32 q (.obj [vi room, rowC k5 d6 L7.length o8 ((l.take ((((l.length : Int) - i) : Int).toNat)).length) true]))
    (cast (And.intro (ob_load_ptr (P := pg) (A := an) (H := H32) (t := 22) (ty := 0) (id := q) (off := 1) (n := 1) (cs := [vi room, rowC k5 d6 L7.length o8 l.length cd9]) (cs' := [rowC k5 d6 L7.length o8 l.length cd9]) (v := .one (rowC k5 d6 L7.length o8 l.length cd9)) (On.at hs33 1 rfl) (by kernel_rfl) (by kernel_rfl) (by kernel_rfl) (by kernel_rfl)) (And.intro (or_slicec (P := pg) (A := an) (H := H32) (s := NI) (t := 22) (el := 3) (ty := 0) (pu := true) (id := k5) (d := d6) (o := o8) (n := l.length) (l := L7) (capd := cd9) (n' := ((l.take ((((l.length : Int) - i) : Int).toNat)).length)) (h := ((l.length : Int) - i)) (On.at hs33 2 rfl) (by kernel_rfl) (by kernel_rfl) (by omega) (by first | rfl | omega | (simp only [List.length_nil]; omega) | (simp; done) | (simp; omega)) (by first | rfl | omega | (simp only [List.length_nil]; omega) | (simp; done) | (simp; omega)) (by first | rfl | omega | (simp only [List.length_nil]; omega) | (simp; done) | (simp; omega))) (And.intro (ob_store_ptr (P := pg) (A := an) (H := H32) (t := 22) (ty := 0) (id := q) (off := 1) (cs := [vi room, rowC k5 d6 L7.length o8 l.length cd9]) (cs' := [vi room, rowC k5 d6 L7.length o8 ((l.take ((((l.length : Int) - i) : Int).toNat)).length) true]) (v := .one (rowC k5 d6 L7.length o8 ((l.take ((((l.length : Int) - i) : Int).toNat)).length) true)) (On.at hs33 1 rfl) (by kernel_rfl) (by kernel_rfl) (by kernel_rfl)) trivial))) (by kernel_rfl)) (by kernel_rfl) ?_
  refine Wp.gen (cs := [R, pts q (.obj [vi room, rowC k5 d6 L7.length o8 ((l.take ((((l.length : Int) - i) : Int).toNat)).length) true]), pts k5 (rowO NI true d6 L7), pts k27 (rowO NI true 0 (l.drop ((((l.length : Int) - i) : Int).toNat)))]) (On.put (.obj [vi room, rowC k5 d6 L7.length o8 ((l.take ((((l.length : Int) - i) : Int).toNat)).length) true]) hs33 1 rfl) ?_
  intro H36 hs37
  refine Wp.regionSeq [] [(4, .y (.one (rowC k27 0 (l.drop ((((l.length : Int) - i) : Int).toNat)).length 0 ((l.drop ((((l.length : Int) - i) : Int).toNat)).length) true))), (5, xi 0)] H36
    (cast trivial (by kernel_rfl)) (by kernel_rfl) ?_
  refine Wp.ret ?_
  refine ⟨Or.inr rfl, [.one (rowC k27 0 (l.drop ((((l.length : Int) - i) : Int).toNat)).length 0 ((l.drop ((((l.length : Int) - i) : Int).toNat)).length) true), .one (vi 0)], (by kernel_rfl), ?_⟩
  have hs38 : On [R, pts k27 (rowO NI true 0 (l.drop ((((l.length : Int) - i) : Int).toNat))), ringP NI q room (l.take ((l.length : Int) - i).toNat)] H36 := On.shut (cs := [R, pts q (.obj [vi room, rowC k5 d6 L7.length o8 ((l.take ((((l.length : Int) - i) : Int).toNat)).length) true]), pts k5 (rowO NI true d6 L7), pts k27 (rowO NI true 0 (l.drop ((((l.length : Int) - i) : Int).toNat)))]) [1, 2] [0, 3] rfl (fun _ x => ring_row ⟨by omega, by omega, by first | rfl | omega | (simp only [List.length_nil]; omega) | (simp; done) | (simp; omega)⟩ (by first | rfl | omega | (simp only [List.length_nil]; omega) | (simp; done) | (simp; omega)) (by first | rfl | omega | (simp only [List.length_nil]; omega) | (simp; done) | (simp; omega)) (fun h => by cases h) (((content_sub (a := 0) (n' := (l.take ((((l.length : Int) - i) : Int).toNat)).length) (hl12) (by first | rfl | omega | (simp only [List.length_nil]; omega) | (simp; done) | (simp; omega)) (by first | rfl | omega | (simp only [List.length_nil]; omega) | (simp; done) | (simp; omega))).trans (take_len (by first | rfl | omega | (simp only [List.length_nil]; omega) | (simp; done) | (simp; omega)))).trans (show (l.take ((((l.length : Int) - i) : Int).toNat)) = (l.take ((l.length : Int) - i).toNat) from by first | rfl | (simp; done) | omega | (simp [*]; done) | (exact (List.take_of_length_le (by omega)).symm) | (rw [List.take_of_length_le (by omega)]) | first | rfl | (apply List.ext_getElem?; intro i; first | (simp only [List.nil_append, List.append_nil, List.drop_zero, Nat.zero_add, List.getElem?_take, List.getElem?_drop, List.getElem?_append, List.length_take, List.length_drop, List.length_append, List.length_nil, List.getElem?_nil, Int.toNat_natCast]; done) | ((try simp only [List.nil_append, List.append_nil, List.drop_zero, Nat.zero_add, List.getElem?_take, List.getElem?_drop, List.getElem?_append, List.length_take, List.length_drop, List.length_append, List.length_nil, List.getElem?_nil, Int.toNat_natCast]); (repeat' split) <;> first | rfl | (congr 1; omega) | (exfalso; omega) | (exact List.getElem?_eq_none (by omega)) | (exact (List.getElem?_eq_none (by omega)).symm))))) x) hs37
  have e1 : (l.drop ((((l.length : Int) - i) : Int).toNat)) = (l.drop ((l.length : Int) - i).toNat) := by first | rfl | (simp; done) | omega | (simp [*]; done) | (exact (List.take_of_length_le (by omega)).symm) | (rw [List.take_of_length_le (by omega)]) | first | rfl | (apply List.ext_getElem?; intro i; first | (simp only [List.nil_append, List.append_nil, List.drop_zero, Nat.zero_add, List.getElem?_take, List.getElem?_drop, List.getElem?_append, List.length_take, List.length_drop, List.length_append, List.length_nil, List.getElem?_nil, Int.toNat_natCast]; done) | ((try simp only [List.nil_append, List.append_nil, List.drop_zero, Nat.zero_add, List.getElem?_take, List.getElem?_drop, List.getElem?_append, List.length_take, List.length_drop, List.length_append, List.length_nil, List.getElem?_nil, Int.toNat_natCast]); (repeat' split) <;> first | rfl | (congr 1; omega) | (exfalso; omega) | (exact List.getElem?_eq_none (by omega)) | (exact (List.getElem?_eq_none (by omega)).symm)))
  have hs39 := (On.pick [0, 2, 1] [] rfl hs38)
  exact ⟨k27, congrArg (fun z : List Int => [Y.one (rowC k27 0 z.length 0 z.length true), .one (vi 0)]) e1, Eq.mp (congrArg (fun z : List Int => On [R, ringP NI q room (l.take ((l.length : Int) - i).toNat), pts k27 (rowO NI true 0 z)] _) e1) hs39⟩
theorem join_full_s (R : HP) (H : Go.Lg.Heap) (q : Nat) (room : Int) (l : List Int) (b nil cp : Bool) (m : List Int) (hs : On [R, ringP NI q room l] H) (h1 : room < (l.length : Int) + m.length) : ∃ rs H', Runs pg an 19 [.one (.ptr q 0), .one (sv NI b nil cp m)] H rs H' ∧ rs = [.one (vi 2)] ∧ On [R, ringP NI q room l] H' := by
 refine Runs.of (fn := Try.f19) Try.func19 rfl (by kernel_rfl) [(0, .y (.one (.ptr q 0))), (1, .y (.one (sv NI b nil cp m)))] (by kernel_rfl) ?_
 refine Wp.regionSeq [] [(0, .y (.one (.ptr q 0))), (1, .y (.one (sv NI b nil cp m)))] H
   (cast trivial (by kernel_rfl)) (by kernel_rfl) ?_
 refine Wp.seq ?_
 obtain ⟨⟨hb4a, hb4b, hb4c⟩, ⟨hl5, hs2⟩ | ⟨k6, d7, L8, o9, cd10, ho11, hc12, hl13, hs3⟩⟩ := ring_open hs 1 rfl
 ·
  have hl5n : (l.length : Int) = 0 := by rw [hl5]; rfl
  have hcall14 : Runs pg an 27 [.one (.ptr q 0)] H [.one (vb true)] H := by
   refine runs_of ?_
   refine Runs.of (fn := Try.f27) Try.func27 rfl (by kernel_rfl) [(0, .y (.one (.ptr q 0)))] (by kernel_rfl) ?_
   refine Wp.regionSeq [] [(0, .y (.one (.ptr q 0)))] H
     (cast trivial (by kernel_rfl)) (by kernel_rfl) ?_
   refine Wp.regionSeq [(6, xi room, H), (7, xb true, H)] [(2, xb true)] H
     (cast (And.intro (ob_load_ptr (P := pg) (A := an) (H := H) (t := 3) (ty := 0) (id := q) (off := 0) (n := 1) (cs := [vi room, .sl false true true [] 0]) (cs' := [vi room]) (v := .one (vi room)) (On.at hs2 1 rfl) (by kernel_rfl) (by kernel_rfl) (by kernel_rfl) (by kernel_rfl)) (And.intro (ob_raw (P := pg) (A := an) (vals := [xi room, xi 0]) (H := H) (op := .binOp .gtr 3 (.tmp 0) (.tmp 1) 3) (ty := 0) (r := xb (decide ((room : Int) > 0))) (v := xb true) (by kernel_rfl) (congrArg (fun z => xb z) (decide_eq_true (by omega)))) trivial)) (by kernel_rfl)) (by kernel_rfl) ?_
   refine Wp.ret ?_
   exact ⟨Or.inr rfl, [.one (vb true)], (by kernel_rfl), ⟨rfl, rfl⟩⟩
  refine Wp.regionSeq [(1, xb true, H)] [(0, .y (.one (.ptr q 0))), (1, .y (.one (sv NI b nil cp m))), (7, xb false)] H
    (cast (And.intro (ob_call (P := pg) (A := an) (H := H) (g := 27) (vals := [.y (.one (.ptr q 0))]) (xs0 := [.one (.ptr q 0)]) (res := [.one (vb true)]) (ats := #[]) (ty := 0) (v := xb true) (H' := H) [.tmp 0] (by kernel_rfl) (by kernel_rfl) hcall14 (by kernel_rfl)) trivial) (by kernel_rfl)) (by kernel_rfl) ?_
  refine Wp.condF (by kernel_rfl) ?_
  refine Wp.skip ?_
  refine Wp.seq ?_
  have hcall15 : Runs pg an 14 [.one (.ptr q 0)] H [.one (vi room)] H := by
   refine runs_of ?_
   refine Runs.of (fn := Try.f14) Try.func14 rfl (by kernel_rfl) [(0, .y (.one (.ptr q 0)))] (by kernel_rfl) ?_
   refine Wp.regionSeq [] [(0, .y (.one (.ptr q 0)))] H
     (cast trivial (by kernel_rfl)) (by kernel_rfl) ?_
   refine Wp.seq ?_
   have hcall16 : Runs pg an 27 [.one (.ptr q 0)] H [.one (vb true)] H := by
    refine runs_of ?_
    refine Runs.of (fn := Try.f27) Try.func27 rfl (by kernel_rfl) [(0, .y (.one (.ptr q 0)))] (by kernel_rfl) ?_
    refine Wp.regionSeq [] [(0, .y (.one (.ptr q 0)))] H
      (cast trivial (by kernel_rfl)) (by kernel_rfl) ?_
    refine Wp.regionSeq [(6, xi room, H), (7, xb true, H)] [(2, xb true)] H
      (cast (And.intro (ob_load_ptr (P := pg) (A := an) (H := H) (t := 3) (ty := 0) (id := q) (off := 0) (n := 1) (cs := [vi room, .sl false true true [] 0]) (cs' := [vi room]) (v := .one (vi room)) (On.at hs2 1 rfl) (by kernel_rfl) (by kernel_rfl) (by kernel_rfl) (by kernel_rfl)) (And.intro (ob_raw (P := pg) (A := an) (vals := [xi room, xi 0]) (H := H) (op := .binOp .gtr 3 (.tmp 0) (.tmp 1) 3) (ty := 0) (r := xb (decide ((room : Int) > 0))) (v := xb true) (by kernel_rfl) (congrArg (fun z => xb z) (decide_eq_true (by omega)))) trivial)) (by kernel_rfl)) (by kernel_rfl) ?_
    refine Wp.ret ?_
    exact ⟨Or.inr rfl, [.one (vb true)], (by kernel_rfl), ⟨rfl, rfl⟩⟩
   refine Wp.regionSeq [(1, xb true, H)] [(0, .y (.one (.ptr q 0))), (5, xb false)] H
     (cast (And.intro (ob_call (P := pg) (A := an) (H := H) (g := 27) (vals := [.y (.one (.ptr q 0))]) (xs0 := [.one (.ptr q 0)]) (res := [.one (vb true)]) (ats := #[]) (ty := 0) (v := xb true) (H' := H) [.tmp 0] (by kernel_rfl) (by kernel_rfl) hcall16 (by kernel_rfl)) trivial) (by kernel_rfl)) (by kernel_rfl) ?_
   refine Wp.condF (by kernel_rfl) ?_
   refine Wp.skip ?_
   refine Wp.regionSeq [(3, xi room, H), (7, .y (.one (.sl false true true [] 0)), H), (9, xi room, H)] [(2, xi room)] H
     (cast (And.intro (ob_load_ptr (P := pg) (A := an) (H := H) (t := 3) (ty := 0) (id := q) (off := 0) (n := 1) (cs := [vi room, .sl false true true [] 0]) (cs' := [vi room]) (v := .one (vi room)) (On.at hs2 1 rfl) (by kernel_rfl) (by kernel_rfl) (by kernel_rfl) (by kernel_rfl)) (And.intro (ob_load_ptr (P := pg) (A := an) (H := H) (t := 22) (ty := 0) (id := q) (off := 1) (n := 1) (cs := [vi room, .sl false true true [] 0]) (cs' := [.sl false true true [] 0]) (v := .one (.sl false true true [] 0)) (On.at hs2 1 rfl) (by kernel_rfl) (by kernel_rfl) (by kernel_rfl) (by kernel_rfl)) (And.intro (ob_raw (P := pg) (A := an) (vals := [xi room, xi 0]) (H := H) (op := .binOp .sub 3 (.tmp 0) (.tmp 1) 3) (ty := 0) (r := xi (IntKind.wrap .i64 (room - 0))) (v := xi room) (by kernel_rfl) (congrArg (fun z => xi z) ((wrap64 (by omega)).trans (by omega)))) trivial))) (by kernel_rfl)) (by kernel_rfl) ?_
   refine Wp.ret ?_
   exact ⟨Or.inr rfl, [.one (vi room)], (by kernel_rfl), ⟨rfl, rfl⟩⟩
  refine Wp.regionSeq [(3, xi room, H), (4, xb true, H)] [(0, .y (.one (.ptr q 0))), (1, .y (.one (sv NI b nil cp m))), (12, xb true)] H
    (cast (And.intro (ob_call (P := pg) (A := an) (H := H) (g := 14) (vals := [.y (.one (.ptr q 0))]) (xs0 := [.one (.ptr q 0)]) (res := [.one (vi room)]) (ats := #[]) (ty := 0) (v := xi room) (H' := H) [.tmp 0] (by kernel_rfl) (by kernel_rfl) hcall15 (by kernel_rfl)) (And.intro (ob_raw (P := pg) (A := an) (vals := [xi (m.length : Int), xi room]) (H := H) (op := .binOp .gtr 3 (.tmp 0) (.tmp 1) 3) (ty := 0) (r := xb (decide (((m.length : Int) : Int) > room))) (v := xb true) (by kernel_rfl) (congrArg (fun z => xb z) (decide_eq_true (by omega)))) trivial)) (by kernel_rfl)) (by kernel_rfl) ?_
  refine Wp.condT (by kernel_rfl) ?_
  refine Wp.regionSeq [] [(4, xi 2)] H
    (cast trivial (by kernel_rfl)) (by kernel_rfl) ?_
  refine Wp.ret ?_
  refine ⟨Or.inr rfl, [.one (vi 2)], (by kernel_rfl), ?_⟩
  have hs17 : On [R, ringP NI q room l] H := On.shut (cs := [R, pts q (.obj [vi room, .sl false true true [] 0])]) [1] [0] rfl (fun _ x => ring_nil' (hl5) ⟨by omega, by omega⟩ x) hs2
  exact ⟨rfl, (On.pick [0, 1] [] rfl hs17)⟩
 ·
  have hcall18 : Runs pg an 27 [.one (.ptr q 0)] H [.one (vb true)] H := by
   refine runs_of ?_
   refine Runs.of (fn := Try.f27) Try.func27 rfl (by kernel_rfl) [(0, .y (.one (.ptr q 0)))] (by kernel_rfl) ?_
   refine Wp.regionSeq [] [(0, .y (.one (.ptr q 0)))] H
     (cast trivial (by kernel_rfl)) (by kernel_rfl) ?_
   refine Wp.regionSeq [(6, xi room, H), (7, xb true, H)] [(2, xb true)] H
     (cast (And.intro (ob_load_ptr (P := pg) (A := an) (H := H) (t := 3) (ty := 0) (id := q) (off := 0) (n := 1) (cs := [vi room, rowC k6 d7 L8.length o9 l.length cd10]) (cs' := [vi room]) (v := .one (vi room)) (On.at hs3 1 rfl) (by kernel_rfl) (by kernel_rfl) (by kernel_rfl) (by kernel_rfl)) (And.intro (ob_raw (P := pg) (A := an) (vals := [xi room, xi 0]) (H := H) (op := .binOp .gtr 3 (.tmp 0) (.tmp 1) 3) (ty := 0) (r := xb (decide ((room : Int) > 0))) (v := xb true) (by kernel_rfl) (congrArg (fun z => xb z) (decide_eq_true (by omega)))) trivial)) (by kernel_rfl)) (by kernel_rfl) ?_
   refine Wp.ret ?_
   exact ⟨Or.inr rfl, [.one (vb true)], (by kernel_rfl), ⟨rfl, rfl⟩⟩
  refine Wp.regionSeq [(1, xb true, H)] [(0, .y (.one (.ptr q 0))), (1, .y (.one (sv NI b nil cp m))), (7, xb false)] H
    (cast (And.intro (ob_call (P := pg) (A := an) (H := H) (g := 27) (vals := [.y (.one (.ptr q 0))]) (xs0 := [.one (.ptr q 0)]) (res := [.one (vb true)]) (ats := #[]) (ty := 0) (v := xb true) (H' := H) [.tmp 0] (by kernel_rfl) (by kernel_rfl) hcall18 (by kernel_rfl)) trivial) (by kernel_rfl)) (by kernel_rfl) ?_
  refine Wp.condF (by kernel_rfl) ?_
  refine Wp.skip ?_
  refine Wp.seq ?_
  have hcall19 : Runs pg an 14 [.one (.ptr q 0)] H [.one (vi (room - (l.length : Int)))] H := by
   refine runs_of ?_
   refine Runs.of (fn := Try.f14) Try.func14 rfl (by kernel_rfl) [(0, .y (.one (.ptr q 0)))] (by kernel_rfl) ?_
   refine Wp.regionSeq [] [(0, .y (.one (.ptr q 0)))] H
     (cast trivial (by kernel_rfl)) (by kernel_rfl) ?_
   refine Wp.seq ?_
   have hcall20 : Runs pg an 27 [.one (.ptr q 0)] H [.one (vb true)] H := by
    refine runs_of ?_
    refine Runs.of (fn := Try.f27) Try.func27 rfl (by kernel_rfl) [(0, .y (.one (.ptr q 0)))] (by kernel_rfl) ?_
    refine Wp.regionSeq [] [(0, .y (.one (.ptr q 0)))] H
      (cast trivial (by kernel_rfl)) (by kernel_rfl) ?_
    refine Wp.regionSeq [(6, xi room, H), (7, xb true, H)] [(2, xb true)] H
      (cast (And.intro (ob_load_ptr (P := pg) (A := an) (H := H) (t := 3) (ty := 0) (id := q) (off := 0) (n := 1) (cs := [vi room, rowC k6 d7 L8.length o9 l.length cd10]) (cs' := [vi room]) (v := .one (vi room)) (On.at hs3 1 rfl) (by kernel_rfl) (by kernel_rfl) (by kernel_rfl) (by kernel_rfl)) (And.intro (ob_raw (P := pg) (A := an) (vals := [xi room, xi 0]) (H := H) (op := .binOp .gtr 3 (.tmp 0) (.tmp 1) 3) (ty := 0) (r := xb (decide ((room : Int) > 0))) (v := xb true) (by kernel_rfl) (congrArg (fun z => xb z) (decide_eq_true (by omega)))) trivial)) (by kernel_rfl)) (by kernel_rfl) ?_
    refine Wp.ret ?_
    exact ⟨Or.inr rfl, [.one (vb true)], (by kernel_rfl), ⟨rfl, rfl⟩⟩
   refine Wp.regionSeq [(1, xb true, H)] [(0, .y (.one (.ptr q 0))), (5, xb false)] H
     (cast (And.intro (ob_call (P := pg) (A := an) (H := H) (g := 27) (vals := [.y (.one (.ptr q 0))]) (xs0 := [.one (.ptr q 0)]) (res := [.one (vb true)]) (ats := #[]) (ty := 0) (v := xb true) (H' := H) [.tmp 0] (by kernel_rfl) (by kernel_rfl) hcall20 (by kernel_rfl)) trivial) (by kernel_rfl)) (by kernel_rfl) ?_
   refine Wp.condF (by kernel_rfl) ?_
   refine Wp.skip ?_
   refine Wp.regionSeq [(3, xi room, H), (7, .y (.one (rowC k6 d7 L8.length o9 l.length cd10)), H), (8, xi (l.length : Int), H), (9, xi (room - (l.length : Int)), H)] [(2, xi (room - (l.length : Int)))] H
     (cast (And.intro (ob_load_ptr (P := pg) (A := an) (H := H) (t := 3) (ty := 0) (id := q) (off := 0) (n := 1) (cs := [vi room, rowC k6 d7 L8.length o9 l.length cd10]) (cs' := [vi room]) (v := .one (vi room)) (On.at hs3 1 rfl) (by kernel_rfl) (by kernel_rfl) (by kernel_rfl) (by kernel_rfl)) (And.intro (ob_load_ptr (P := pg) (A := an) (H := H) (t := 22) (ty := 0) (id := q) (off := 1) (n := 1) (cs := [vi room, rowC k6 d7 L8.length o9 l.length cd10]) (cs' := [rowC k6 d7 L8.length o9 l.length cd10]) (v := .one (rowC k6 d7 L8.length o9 l.length cd10)) (On.at hs3 1 rfl) (by kernel_rfl) (by kernel_rfl) (by kernel_rfl) (by kernel_rfl)) (And.intro (or_len (P := pg) (A := an) (H := H) (s := NI) (t := 22) (ty := 0) (pu := true) (capd := cd10) (id := k6) (d := d7) (o := o9) (n := l.length) (l := L8) (e := (l.length : Int)) (On.at hs3 2 rfl) (by kernel_rfl) (by first | rfl | omega | (simp only [List.length_nil]; omega) | (simp; done) | (simp; omega))) (And.intro (ob_raw (P := pg) (A := an) (vals := [xi room, xi (l.length : Int)]) (H := H) (op := .binOp .sub 3 (.tmp 0) (.tmp 1) 3) (ty := 0) (r := xi (IntKind.wrap .i64 (room - (l.length : Int)))) (v := xi (room - (l.length : Int))) (by kernel_rfl) (congrArg (fun z => xi z) ((wrap64 (by omega)).trans (by omega)))) trivial)))) (by kernel_rfl)) (by kernel_rfl) ?_
   refine Wp.ret ?_
   exact ⟨Or.inr rfl, [.one (vi (room - (l.length : Int)))], (by kernel_rfl), ⟨rfl, rfl⟩⟩
  refine Wp.regionSeq [(3, xi (room - (l.length : Int)), H), (4, xb true, H)] [(0, .y (.one (.ptr q 0))), (1, .y (.one (sv NI b nil cp m))), (12, xb true)] H
    (cast (And.intro (ob_call (P := pg) (A := an) (H := H) (g := 14) (vals := [.y (.one (.ptr q 0))]) (xs0 := [.one (.ptr q 0)]) (res := [.one (vi (room - (l.length : Int)))]) (ats := #[]) (ty := 0) (v := xi (room - (l.length : Int))) (H' := H) [.tmp 0] (by kernel_rfl) (by kernel_rfl) hcall19 (by kernel_rfl)) (And.intro (ob_raw (P := pg) (A := an) (vals := [xi (m.length : Int), xi (room - (l.length : Int))]) (H := H) (op := .binOp .gtr 3 (.tmp 0) (.tmp 1) 3) (ty := 0) (r := xb (decide (((m.length : Int) : Int) > (room - (l.length : Int))))) (v := xb true) (by kernel_rfl) (congrArg (fun z => xb z) (decide_eq_true (by omega)))) trivial)) (by kernel_rfl)) (by kernel_rfl) ?_
  refine Wp.condT (by kernel_rfl) ?_
  refine Wp.regionSeq [] [(4, xi 2)] H
    (cast trivial (by kernel_rfl)) (by kernel_rfl) ?_
  refine Wp.ret ?_
  refine ⟨Or.inr rfl, [.one (vi 2)], (by kernel_rfl), ?_⟩
  have hs21 : On [R, ringP NI q room l] H := On.shut (cs := [R, pts q (.obj [vi room, rowC k6 d7 L8.length o9 l.length cd10]), pts k6 (rowO NI true d7 L8)]) [1, 2] [0] rfl (fun _ x => ring_row ⟨by omega, by omega, by first | rfl | omega | (simp only [List.length_nil]; omega) | (simp; done) | (simp; omega)⟩ (by first | rfl | omega | (simp only [List.length_nil]; omega) | (simp; done) | (simp; omega)) (by first | rfl | omega | (simp only [List.length_nil]; omega) | (simp; done) | (simp; omega)) (fun h => by have := hc12 h; first | rfl | omega | (simp only [List.length_nil]; omega) | (simp; done) | (simp; omega)) (hl13) x) hs3
  exact ⟨rfl, (On.pick [0, 1] [] rfl hs21)⟩
theorem join_ok_s (R : HP) (H : Go.Lg.Heap) (q : Nat) (room : Int) (l : List Int) (b nil cp : Bool) (m : List Int) (hs : On [R, ringP NI q room l] H) (h1 : (l.length : Int) + m.length ≤ room) : ∃ rs H', Runs pg an 19 [.one (.ptr q 0), .one (sv NI b nil cp m)] H rs H' ∧ rs = [.one (vi 0)] ∧ On [R, ringP NI q room (l ++ m)] H' := by
 have hle1 : ((l ++ m).length : Int) = l.length + m.length := by rw [List.length_append]; omega
 refine Runs.of (fn := Try.f19) Try.func19 rfl (by kernel_rfl) [(0, .y (.one (.ptr q 0))), (1, .y (.one (sv NI b nil cp m)))] (by kernel_rfl) ?_
 refine Wp.regionSeq [] [(0, .y (.one (.ptr q 0))), (1, .y (.one (sv NI b nil cp m)))] H
   (cast trivial (by kernel_rfl)) (by kernel_rfl) ?_
 refine Wp.seq ?_
 obtain ⟨⟨hb4a, hb4b, hb4c⟩, ⟨hl5, hs2⟩ | ⟨k6, d7, L8, o9, cd10, ho11, hc12, hl13, hs3⟩⟩ := ring_open hs 1 rfl
 ·
  have hl5n : (l.length : Int) = 0 := by rw [hl5]; rfl
  have hcall14 : Runs pg an 27 [.one (.ptr q 0)] H [.one (vb true)] H := by
   refine runs_of ?_
   refine Runs.of (fn := Try.f27) Try.func27 rfl (by kernel_rfl) [(0, .y (.one (.ptr q 0)))] (by kernel_rfl) ?_
   refine Wp.regionSeq [] [(0, .y (.one (.ptr q 0)))] H
     (cast trivial (by kernel_rfl)) (by kernel_rfl) ?_
   refine Wp.regionSeq [(6, xi room, H), (7, xb true, H)] [(2, xb true)] H
     (cast (And.intro (ob_load_ptr (P := pg) (A := an) (H := H) (t := 3) (ty := 0) (id := q) (off := 0) (n := 1) (cs := [vi room, .sl false true true [] 0]) (cs' := [vi room]) (v := .one (vi room)) (On.at hs2 1 rfl) (by kernel_rfl) (by kernel_rfl) (by kernel_rfl) (by kernel_rfl)) (And.intro (ob_raw (P := pg) (A := an) (vals := [xi room, xi 0]) (H := H) (op := .binOp .gtr 3 (.tmp 0) (.tmp 1) 3) (ty := 0) (r := xb (decide ((room : Int) > 0))) (v := xb true) (by kernel_rfl) (congrArg (fun z => xb z) (decide_eq_true (by omega)))) trivial)) (by kernel_rfl)) (by kernel_rfl) ?_
   refine Wp.ret ?_
   exact ⟨Or.inr rfl, [.one (vb true)], (by kernel_rfl), ⟨rfl, rfl⟩⟩
  refine Wp.regionSeq [(1, xb true, H)] [(0, .y (.one (.ptr q 0))), (1, .y (.one (sv NI b nil cp m))), (7, xb false)] H
    (cast (And.intro (ob_call (P := pg) (A := an) (H := H) (g := 27) (vals := [.y (.one (.ptr q 0))]) (xs0 := [.one (.ptr q 0)]) (res := [.one (vb true)]) (ats := #[]) (ty := 0) (v := xb true) (H' := H) [.tmp 0] (by kernel_rfl) (by kernel_rfl) hcall14 (by kernel_rfl)) trivial) (by kernel_rfl)) (by kernel_rfl) ?_
  refine Wp.condF (by kernel_rfl) ?_
  refine Wp.skip ?_
  refine Wp.seq ?_
  have hcall15 : Runs pg an 14 [.one (.ptr q 0)] H [.one (vi room)] H := by
   refine runs_of ?_
   refine Runs.of (fn := Try.f14) Try.func14 rfl (by kernel_rfl) [(0, .y (.one (.ptr q 0)))] (by kernel_rfl) ?_
   refine Wp.regionSeq [] [(0, .y (.one (.ptr q 0)))] H
     (cast trivial (by kernel_rfl)) (by kernel_rfl) ?_
   refine Wp.seq ?_
   have hcall16 : Runs pg an 27 [.one (.ptr q 0)] H [.one (vb true)] H := by
    refine runs_of ?_
    refine Runs.of (fn := Try.f27) Try.func27 rfl (by kernel_rfl) [(0, .y (.one (.ptr q 0)))] (by kernel_rfl) ?_
    refine Wp.regionSeq [] [(0, .y (.one (.ptr q 0)))] H
      (cast trivial (by kernel_rfl)) (by kernel_rfl) ?_
    refine Wp.regionSeq [(6, xi room, H), (7, xb true, H)] [(2, xb true)] H
      (cast (And.intro (ob_load_ptr (P := pg) (A := an) (H := H) (t := 3) (ty := 0) (id := q) (off := 0) (n := 1) (cs := [vi room, .sl false true true [] 0]) (cs' := [vi room]) (v := .one (vi room)) (On.at hs2 1 rfl) (by kernel_rfl) (by kernel_rfl) (by kernel_rfl) (by kernel_rfl)) (And.intro (ob_raw (P := pg) (A := an) (vals := [xi room, xi 0]) (H := H) (op := .binOp .gtr 3 (.tmp 0) (.tmp 1) 3) (ty := 0) (r := xb (decide ((room : Int) > 0))) (v := xb true) (by kernel_rfl) (congrArg (fun z => xb z) (decide_eq_true (by omega)))) trivial)) (by kernel_rfl)) (by kernel_rfl) ?_
    refine Wp.ret ?_
    exact ⟨Or.inr rfl, [.one (vb true)], (by kernel_rfl), ⟨rfl, rfl⟩⟩
   refine Wp.regionSeq [(1, xb true, H)] [(0, .y (.one (.ptr q 0))), (5, xb false)] H
     (cast (And.intro (ob_call (P := pg) (A := an) (H := H) (g := 27) (vals := [.y (.one (.ptr q 0))]) (xs0 := [.one (.ptr q 0)]) (res := [.one (vb true)]) (ats := #[]) (ty := 0) (v := xb true) (H' := H) [.tmp 0] (by kernel_rfl) (by kernel_rfl) hcall16 (by kernel_rfl)) trivial) (by kernel_rfl)) (by kernel_rfl) ?_
   refine Wp.condF (by kernel_rfl) ?_
   refine Wp.skip ?_
   refine Wp.regionSeq [(3, xi room, H), (7, .y (.one (.sl false true true [] 0)), H), (9, xi room, H)] [(2, xi room)] H
     (cast (And.intro (ob_load_ptr (P := pg) (A := an) (H := H) (t := 3) (ty := 0) (id := q) (off := 0) (n := 1) (cs := [vi room, .sl false true true [] 0]) (cs' := [vi room]) (v := .one (vi room)) (On.at hs2 1 rfl) (by kernel_rfl) (by kernel_rfl) (by kernel_rfl) (by kernel_rfl)) (And.intro (ob_load_ptr (P := pg) (A := an) (H := H) (t := 22) (ty := 0) (id := q) (off := 1) (n := 1) (cs := [vi room, .sl false true true [] 0]) (cs' := [.sl false true true [] 0]) (v := .one (.sl false true true [] 0)) (On.at hs2 1 rfl) (by kernel_rfl) (by kernel_rfl) (by kernel_rfl) (by kernel_rfl)) (And.intro (ob_raw (P := pg) (A := an) (vals := [xi room, xi 0]) (H := H) (op := .binOp .sub 3 (.tmp 0) (.tmp 1) 3) (ty := 0) (r := xi (IntKind.wrap .i64 (room - 0))) (v := xi room) (by kernel_rfl) (congrArg (fun z => xi z) ((wrap64 (by omega)).trans (by omega)))) trivial))) (by kernel_rfl)) (by kernel_rfl) ?_
   refine Wp.ret ?_
   exact ⟨Or.inr rfl, [.one (vi room)], (by kernel_rfl), ⟨rfl, rfl⟩⟩
  refine Wp.regionSeq [(3, xi room, H), (4, xb false, H)] [(0, .y (.one (.ptr q 0))), (1, .y (.one (sv NI b nil cp m))), (12, xb false)] H
    (cast (And.intro (ob_call (P := pg) (A := an) (H := H) (g := 14) (vals := [.y (.one (.ptr q 0))]) (xs0 := [.one (.ptr q 0)]) (res := [.one (vi room)]) (ats := #[]) (ty := 0) (v := xi room) (H' := H) [.tmp 0] (by kernel_rfl) (by kernel_rfl) hcall15 (by kernel_rfl)) (And.intro (ob_raw (P := pg) (A := an) (vals := [xi (m.length : Int), xi room]) (H := H) (op := .binOp .gtr 3 (.tmp 0) (.tmp 1) 3) (ty := 0) (r := xb (decide (((m.length : Int) : Int) > room))) (v := xb false) (by kernel_rfl) (congrArg (fun z => xb z) (decide_eq_false (by omega)))) trivial)) (by kernel_rfl)) (by kernel_rfl) ?_
  refine Wp.condF (by kernel_rfl) ?_
  refine Wp.skip ?_
  by_cases c17 : (0 : Int) < (m.length : Int)
  ·
   obtain ⟨n18, hn18⟩ : ∃ n, n = List.length (H : Go.Lg.Heap) := ⟨_, rfl⟩
   refine Wp.regionSeq [(4, .y (.one (.sl false true true [] 0)), H), (6, .y (.one (rowC n18 0 m.length 0 m.length false)), (H ++ [rowO NI true 0 m])), (9, .tup [], (List.set (α := O) (H ++ [rowO NI true 0 m]) q (.obj [vi room, rowC n18 0 m.length 0 m.length false])))] [] (List.set (α := O) (H ++ [rowO NI true 0 m]) q (.obj [vi room, rowC n18 0 m.length 0 m.length false]))
     (cast (And.intro (ob_load_ptr (P := pg) (A := an) (H := H) (t := 22) (ty := 0) (id := q) (off := 1) (n := 1) (cs := [vi room, .sl false true true [] 0]) (cs' := [.sl false true true [] 0]) (v := .one (.sl false true true [] 0)) (On.at hs2 1 rfl) (by kernel_rfl) (by kernel_rfl) (by kernel_rfl) (by kernel_rfl)) (And.intro (or_append_new (P := pg) (A := an) (H := H) (s := NI) (t := 22) (u := 22) (el := 3) (by_ := 8) (z := [vi 0]) (ty := 0) (b' := false) (nil' := true) (pu := true) (puy := true) (m := m.length) (n' := m.length) (k := n18) (nl := 0) (l := ([] : List Int)) (lm := m) (l' := m) (y := sv NI b nil cp m) hn18 (by first | rfl | omega | (simp only [List.length_nil]; omega) | (simp; done) | (simp; omega)) (by kernel_rfl) (slCells_slO (H := H) (s := NI) (b := b) (nil := nil) (capd := cp) (l := m) (n := m.length) (by first | rfl | omega | (simp only [List.length_nil]; omega) | (simp; done) | (simp; omega))) (by kernel_rfl) (by kernel_rfl) (by kernel_rfl) (by kernel_rfl) (by kernel_rfl) (by kernel_rfl) (by kernel_rfl) (by first | rfl | omega | (simp only [List.length_nil]; omega) | (simp; done) | (simp; omega)) (by first | rfl | omega | (simp only [List.length_nil]; omega) | (simp; done) | (simp; omega)) (by omega) (by omega) (List.nil_append _) (by first | rfl | omega | (simp only [List.length_append, List.length_nil]; omega) | (simp; done) | (simp; omega))) (And.intro (ob_store_ptr (P := pg) (A := an) (H := (H ++ [rowO NI true 0 m])) (t := 22) (ty := 0) (id := q) (off := 1) (cs := [vi room, .sl false true true [] 0]) (cs' := [vi room, rowC n18 0 m.length 0 m.length false]) (v := .one (rowC n18 0 m.length 0 m.length false)) (On.at (On.new' hn18 (rowO NI true 0 m) hs2) 1 rfl) (by kernel_rfl) (by kernel_rfl) (by kernel_rfl)) trivial))) (by kernel_rfl)) (by kernel_rfl) ?_
   refine Wp.gen (cs := [R, pts q (.obj [vi room, rowC n18 0 m.length 0 m.length false]), pts n18 (rowO NI true 0 m)]) (On.put (.obj [vi room, rowC n18 0 m.length 0 m.length false]) (On.new' hn18 (rowO NI true 0 m) hs2) 1 rfl) ?_
   intro H19 hs20
   refine Wp.regionSeq [] [(4, xi 0)] H19
     (cast trivial (by kernel_rfl)) (by kernel_rfl) ?_
   refine Wp.ret ?_
   refine ⟨Or.inr rfl, [.one (vi 0)], (by kernel_rfl), ?_⟩
   have hs21 : On [R, ringP NI q room (l ++ m)] H19 := On.shut (cs := [R, pts q (.obj [vi room, rowC n18 0 m.length 0 m.length false]), pts n18 (rowO NI true 0 m)]) [1, 2] [0] rfl (fun _ x => ring_row ⟨by omega, by omega, by first | rfl | omega | (simp only [List.length_nil]; omega) | (simp; done) | (simp; omega)⟩ (by first | rfl | omega | (simp only [List.length_nil]; omega) | (simp; done) | (simp; omega)) (by first | rfl | omega | (simp only [List.length_nil]; omega) | (simp; done) | (simp; omega)) (fun _ => by first | rfl | omega | (simp only [List.length_nil]; omega) | (simp; done) | (simp; omega)) ((dt0 rfl (Nat.le_refl _)).trans (by rw [hl5, List.nil_append])) x) hs20
   exact ⟨rfl, (On.pick [0, 1] [] rfl hs21)⟩
  ·
   refine Wp.regionSeq [(4, .y (.one (.sl false true true [] 0)), H), (6, .y (.one (.sl false true true [] 0)), H), (9, .tup [], (List.set (α := O) H q (.obj [vi room, .sl false true true [] 0])))] [] (List.set (α := O) H q (.obj [vi room, .sl false true true [] 0]))
     (cast (And.intro (ob_load_ptr (P := pg) (A := an) (H := H) (t := 22) (ty := 0) (id := q) (off := 1) (n := 1) (cs := [vi room, .sl false true true [] 0]) (cs' := [.sl false true true [] 0]) (v := .one (.sl false true true [] 0)) (On.at hs2 1 rfl) (by kernel_rfl) (by kernel_rfl) (by kernel_rfl) (by kernel_rfl)) (And.intro (ob_append_none (P := pg) (A := an) (H := H) (t := 22) (u := 22) (el := 3) (by_ := 8) (z := [vi 0]) (ty := 0) (sz := 1) (c := .sl false true true [] 0) (y := sv NI b nil cp m) (cs := ([] : List Int).flatMap (enc NI)) (n := 0) (pu := true) (cs' := m.flatMap (enc NI)) (puy := true) (slCells_slO (H := H) (s := NI) (b := false) (nil := true) (capd := true) (l := ([] : List Int)) (n := 0) (by first | rfl | omega | (simp only [List.length_nil]; omega) | (simp; done) | (simp; omega))) (((slCells_slO (H := H) (s := NI) (b := b) (nil := nil) (capd := cp) (l := m) (n := m.length) (by first | rfl | omega | (simp only [List.length_nil]; omega) | (simp; done) | (simp; omega)))).trans (by rw [show m.length = 0 from by first | rfl | omega | (simp only [List.length_nil]; omega) | (simp; done) | (simp; omega)])) (by kernel_rfl) (by kernel_rfl) (by kernel_rfl) (by kernel_rfl) (by kernel_rfl) (by kernel_rfl)) (And.intro (ob_store_ptr (P := pg) (A := an) (H := H) (t := 22) (ty := 0) (id := q) (off := 1) (cs := [vi room, .sl false true true [] 0]) (cs' := [vi room, .sl false true true [] 0]) (v := .one (.sl false true true [] 0)) (On.at hs2 1 rfl) (by kernel_rfl) (by kernel_rfl) (by kernel_rfl)) trivial))) (by kernel_rfl)) (by kernel_rfl) ?_
   refine Wp.gen (cs := [R, pts q (.obj [vi room, .sl false true true [] 0])]) (On.put (.obj [vi room, .sl false true true [] 0]) hs2 1 rfl) ?_
   intro H22 hs23
   refine Wp.regionSeq [] [(4, xi 0)] H22
     (cast trivial (by kernel_rfl)) (by kernel_rfl) ?_
   refine Wp.ret ?_
   refine ⟨Or.inr rfl, [.one (vi 0)], (by kernel_rfl), ?_⟩
   have hs24 : On [R, ringP NI q room (l ++ m)] H22 := On.shut (cs := [R, pts q (.obj [vi room, .sl false true true [] 0])]) [1] [0] rfl (fun _ x => ring_nil' (by rw [hl5, List.nil_append]; exact List.eq_nil_of_length_eq_zero (by omega)) ⟨by omega, by omega⟩ x) hs23
   exact ⟨rfl, (On.pick [0, 1] [] rfl hs24)⟩
 ·
  have hcall25 : Runs pg an 27 [.one (.ptr q 0)] H [.one (vb true)] H := by
   refine runs_of ?_
   refine Runs.of (fn := Try.f27) Try.func27 rfl (by kernel_rfl) [(0, .y (.one (.ptr q 0)))] (by kernel_rfl) ?_
   refine Wp.regionSeq [] [(0, .y (.one (.ptr q 0)))] H
     (cast trivial (by kernel_rfl)) (by kernel_rfl) ?_
   refine Wp.regionSeq [(6, xi room, H), (7, xb true, H)] [(2, xb true)] H
     (cast (And.intro (ob_load_ptr (P := pg) (A := an) (H := H) (t := 3) (ty := 0) (id := q) (off := 0) (n := 1) (cs := [vi room, rowC k6 d7 L8.length o9 l.length cd10]) (cs' := [vi room]) (v := .one (vi room)) (On.at hs3 1 rfl) (by kernel_rfl) (by kernel_rfl) (by kernel_rfl) (by kernel_rfl)) (And.intro (ob_raw (P := pg) (A := an) (vals := [xi room, xi 0]) (H := H) (op := .binOp .gtr 3 (.tmp 0) (.tmp 1) 3) (ty := 0) (r := xb (decide ((room : Int) > 0))) (v := xb true) (by kernel_rfl) (congrArg (fun z => xb z) (decide_eq_true (by omega)))) trivial)) (by kernel_rfl)) (by kernel_rfl) ?_
   refine Wp.ret ?_
   exact ⟨Or.inr rfl, [.one (vb true)], (by kernel_rfl), ⟨rfl, rfl⟩⟩
  refine Wp.regionSeq [(1, xb true, H)] [(0, .y (.one (.ptr q 0))), (1, .y (.one (sv NI b nil cp m))), (7, xb false)] H
    (cast (And.intro (ob_call (P := pg) (A := an) (H := H) (g := 27) (vals := [.y (.one (.ptr q 0))]) (xs0 := [.one (.ptr q 0)]) (res := [.one (vb true)]) (ats := #[]) (ty := 0) (v := xb true) (H' := H) [.tmp 0] (by kernel_rfl) (by kernel_rfl) hcall25 (by kernel_rfl)) trivial) (by kernel_rfl)) (by kernel_rfl) ?_
  refine Wp.condF (by kernel_rfl) ?_
  refine Wp.skip ?_
  refine Wp.seq ?_
  have hcall26 : Runs pg an 14 [.one (.ptr q 0)] H [.one (vi (room - (l.length : Int)))] H := by
   refine runs_of ?_
   refine Runs.of (fn := Try.f14) Try.func14 rfl (by kernel_rfl) [(0, .y (.one (.ptr q 0)))] (by kernel_rfl) ?_
   refine Wp.regionSeq [] [(0, .y (.one (.ptr q 0)))] H
     (cast trivial (by kernel_rfl)) (by kernel_rfl) ?_
   refine Wp.seq ?_
   have hcall27 : Runs pg an 27 [.one (.ptr q 0)] H [.one (vb true)] H := by
    refine runs_of ?_
    refine Runs.of (fn := Try.f27) Try.func27 rfl (by kernel_rfl) [(0, .y (.one (.ptr q 0)))] (by kernel_rfl) ?_
    refine Wp.regionSeq [] [(0, .y (.one (.ptr q 0)))] H
      (cast trivial (by kernel_rfl)) (by kernel_rfl) ?_
    refine Wp.regionSeq [(6, xi room, H), (7, xb true, H)] [(2, xb true)] H
      (cast (And.intro (ob_load_ptr (P := pg) (A := an) (H := H) (t := 3) (ty := 0) (id := q) (off := 0) (n := 1) (cs := [vi room, rowC k6 d7 L8.length o9 l.length cd10]) (cs' := [vi room]) (v := .one (vi room)) (On.at hs3 1 rfl) (by kernel_rfl) (by kernel_rfl) (by kernel_rfl) (by kernel_rfl)) (And.intro (ob_raw (P := pg) (A := an) (vals := [xi room, xi 0]) (H := H) (op := .binOp .gtr 3 (.tmp 0) (.tmp 1) 3) (ty := 0) (r := xb (decide ((room : Int) > 0))) (v := xb true) (by kernel_rfl) (congrArg (fun z => xb z) (decide_eq_true (by omega)))) trivial)) (by kernel_rfl)) (by kernel_rfl) ?_
    refine Wp.ret ?_
    exact ⟨Or.inr rfl, [.one (vb true)], (by kernel_rfl), ⟨rfl, rfl⟩⟩
   refine Wp.regionSeq [(1, xb true, H)] [(0, .y (.one (.ptr q 0))), (5, xb false)] H
     (cast (And.intro (ob_call (P := pg) (A := an) (H := H) (g := 27) (vals := [.y (.one (.ptr q 0))]) (xs0 := [.one (.ptr q 0)]) (res := [.one (vb true)]) (ats := #[]) (ty := 0) (v := xb true) (H' := H) [.tmp 0] (by kernel_rfl) (by kernel_rfl) hcall27 (by kernel_rfl)) trivial) (by kernel_rfl)) (by kernel_rfl) ?_
   refine Wp.condF (by kernel_rfl) ?_
   refine Wp.skip ?_
   refine Wp.regionSeq [(3, xi room, H), (7, .y (.one (rowC k6 d7 L8.length o9 l.length cd10)), H), (8, xi (l.length : Int), H), (9, xi (room - (l.length : Int)), H)] [(2, xi (room - (l.length : Int)))] H
     (cast (And.intro (ob_load_ptr (P := pg) (A := an) (H := H) (t := 3) (ty := 0) (id := q) (off := 0) (n := 1) (cs := [vi room, rowC k6 d7 L8.length o9 l.length cd10]) (cs' := [vi room]) (v := .one (vi room)) (On.at hs3 1 rfl) (by kernel_rfl) (by kernel_rfl) (by kernel_rfl) (by kernel_rfl)) (And.intro (ob_load_ptr (P := pg) (A := an) (H := H) (t := 22) (ty := 0) (id := q) (off := 1) (n := 1) (cs := [vi room, rowC k6 d7 L8.length o9 l.length cd10]) (cs' := [rowC k6 d7 L8.length o9 l.length cd10]) (v := .one (rowC k6 d7 L8.length o9 l.length cd10)) (On.at hs3 1 rfl) (by kernel_rfl) (by kernel_rfl) (by kernel_rfl) (by kernel_rfl)) (And.intro (or_len (P := pg) (A := an) (H := H) (s := NI) (t := 22) (ty := 0) (pu := true) (capd := cd10) (id := k6) (d := d7) (o := o9) (n := l.length) (l := L8) (e := (l.length : Int)) (On.at hs3 2 rfl) (by kernel_rfl) (by first | rfl | omega | (simp only [List.length_nil]; omega) | (simp; done) | (simp; omega))) (And.intro (ob_raw (P := pg) (A := an) (vals := [xi room, xi (l.length : Int)]) (H := H) (op := .binOp .sub 3 (.tmp 0) (.tmp 1) 3) (ty := 0) (r := xi (IntKind.wrap .i64 (room - (l.length : Int)))) (v := xi (room - (l.length : Int))) (by kernel_rfl) (congrArg (fun z => xi z) ((wrap64 (by omega)).trans (by omega)))) trivial)))) (by kernel_rfl)) (by kernel_rfl) ?_
   refine Wp.ret ?_
   exact ⟨Or.inr rfl, [.one (vi (room - (l.length : Int)))], (by kernel_rfl), ⟨rfl, rfl⟩⟩
  refine Wp.regionSeq [(3, xi (room - (l.length : Int)), H), (4, xb false, H)] [(0, .y (.one (.ptr q 0))), (1, .y (.one (sv NI b nil cp m))), (12, xb false)] H
    (cast (And.intro (ob_call (P := pg) (A := an) (H := H) (g := 14) (vals := [.y (.one (.ptr q 0))]) (xs0 := [.one (.ptr q 0)]) (res := [.one (vi (room - (l.length : Int)))]) (ats := #[]) (ty := 0) (v := xi (room - (l.length : Int))) (H' := H) [.tmp 0] (by kernel_rfl) (by kernel_rfl) hcall26 (by kernel_rfl)) (And.intro (ob_raw (P := pg) (A := an) (vals := [xi (m.length : Int), xi (room - (l.length : Int))]) (H := H) (op := .binOp .gtr 3 (.tmp 0) (.tmp 1) 3) (ty := 0) (r := xb (decide (((m.length : Int) : Int) > (room - (l.length : Int))))) (v := xb false) (by kernel_rfl) (congrArg (fun z => xb z) (decide_eq_false (by omega)))) trivial)) (by kernel_rfl)) (by kernel_rfl) ?_
  refine Wp.condF (by kernel_rfl) ?_
  refine Wp.skip ?_
  by_cases c28 : (0 : Int) < (m.length : Int)
  ·
   rcases Bool.eq_false_or_eq_true cd10 with rfl | rfl
   ·
    obtain ⟨n29, hn29⟩ : ∃ n, n = List.length (H : Go.Lg.Heap) := ⟨_, rfl⟩
    have hlfz30 : ((l ++ m).length : Int) = ((l.length : Int) + (m.length : Int)) := by { first | rfl | omega | (simp only [List.length_nil]; omega) | (simp; done) | (simp; omega) }
    refine Wp.regionSeq [(4, .y (.one (rowC k6 d7 L8.length o9 l.length true)), H), (6, .y (.one (rowC n29 0 (l ++ m).length 0 ((l ++ m).length) false)), (H ++ [rowO NI true 0 (l ++ m)])), (9, .tup [], (List.set (α := O) (H ++ [rowO NI true 0 (l ++ m)]) q (.obj [vi room, rowC n29 0 (l ++ m).length 0 ((l ++ m).length) false])))] [] (List.set (α := O) (H ++ [rowO NI true 0 (l ++ m)]) q (.obj [vi room, rowC n29 0 (l ++ m).length 0 ((l ++ m).length) false]))
      (cast (And.intro (ob_load_ptr (P := pg) (A := an) (H := H) (t := 22) (ty := 0) (id := q) (off := 1) (n := 1) (cs := [vi room, rowC k6 d7 L8.length o9 l.length true]) (cs' := [rowC k6 d7 L8.length o9 l.length true]) (v := .one (rowC k6 d7 L8.length o9 l.length true)) (On.at hs3 1 rfl) (by kernel_rfl) (by kernel_rfl) (by kernel_rfl) (by kernel_rfl)) (And.intro (or_append_cap (P := pg) (A := an) (H := H) (s := NI) (t := 22) (u := 22) (el := 3) (by_ := 8) (z := [vi 0]) (ty := 0) (pu := true) (puy := true) (id := k6) (d := d7) (o := o9) (n := l.length) (m := m.length) (l := L8) (lm := m) (y := sv NI b nil cp m) (n' := (l ++ m).length) (k := n29) (l' := (l ++ m)) hn29 (On.at hs3 2 rfl) (slCells_slO (H := H) (s := NI) (b := b) (nil := nil) (capd := cp) (l := m) (n := m.length) (by first | rfl | omega | (simp only [List.length_nil]; omega) | (simp; done) | (simp; omega))) (by kernel_rfl) (by kernel_rfl) (by kernel_rfl) (by kernel_rfl) (by kernel_rfl) (by kernel_rfl) (by kernel_rfl) (by first | rfl | omega | (simp only [List.length_nil]; omega) | (simp; done) | (simp; omega)) (by first | rfl | omega | (simp only [List.length_nil]; omega) | (simp; done) | (simp; omega)) (by first | rfl | omega | (simp only [List.length_nil]; omega) | (simp; done) | (simp; omega)) (by omega) (by omega) (congrArg (fun z => z ++ _) (hl13)) (by first | (simp only [List.length_append]; done) | (simp only [List.length_append]; first | omega | (simp; done) | (simp; omega)))) (And.intro (ob_store_ptr (P := pg) (A := an) (H := (H ++ [rowO NI true 0 (l ++ m)])) (t := 22) (ty := 0) (id := q) (off := 1) (cs := [vi room, rowC k6 d7 L8.length o9 l.length true]) (cs' := [vi room, rowC n29 0 (l ++ m).length 0 ((l ++ m).length) false]) (v := .one (rowC n29 0 (l ++ m).length 0 ((l ++ m).length) false)) (On.at (On.new' hn29 (rowO NI true 0 (l ++ m)) hs3) 1 rfl) (by kernel_rfl) (by kernel_rfl) (by kernel_rfl)) trivial))) (by kernel_rfl)) (by kernel_rfl) ?_
    refine Wp.gen (cs := [R, pts q (.obj [vi room, rowC n29 0 (l ++ m).length 0 ((l ++ m).length) false]), pts k6 (rowO NI true d7 L8), pts n29 (rowO NI true 0 (l ++ m))]) (On.put (.obj [vi room, rowC n29 0 (l ++ m).length 0 ((l ++ m).length) false]) (On.new' hn29 (rowO NI true 0 (l ++ m)) hs3) 1 rfl) ?_
    intro H32 hs33
    refine Wp.regionSeq [] [(4, xi 0)] H32
      (cast trivial (by kernel_rfl)) (by kernel_rfl) ?_
    refine Wp.ret ?_
    refine ⟨Or.inr rfl, [.one (vi 0)], (by kernel_rfl), ?_⟩
    have hs34 : On [R, pts k6 (rowO NI true d7 L8), ringP NI q room (l ++ m)] H32 := On.shut (cs := [R, pts q (.obj [vi room, rowC n29 0 (l ++ m).length 0 ((l ++ m).length) false]), pts k6 (rowO NI true d7 L8), pts n29 (rowO NI true 0 (l ++ m))]) [1, 3] [0, 2] rfl (fun _ x => ring_row ⟨by omega, by omega, by first | rfl | omega | (simp only [List.length_nil]; omega) | (simp; done) | (simp; omega)⟩ (by first | rfl | omega | (simp only [List.length_nil]; omega) | (simp; done) | (simp; omega)) (by first | rfl | omega | (simp only [List.length_nil]; omega) | (simp; done) | (simp; omega)) (fun _ => by first | rfl | omega | (simp only [List.length_nil]; omega) | (simp; done) | (simp; omega)) ((dt0 rfl (Nat.le_refl _)).trans (show (l ++ m) = l ++ m from rfl)) x) hs33
    exact ⟨rfl, (On.pick [0, 2] [1] rfl hs34)⟩
   ·
    have hc12z := hc12 rfl
    have hlfz35 : ((l ++ m).length : Int) = ((l.length : Int) + (m.length : Int)) := by { first | rfl | omega | (simp only [List.length_nil]; omega) | (simp; done) | (simp; omega) }
    refine Wp.regionSeq [(4, .y (.one (rowC k6 d7 L8.length o9 l.length false)), H), (6, .y (.one (rowC k6 (d7 + o9) (l ++ m).length 0 ((l ++ m).length) false)), (List.set (α := O) H k6 (rowO NI true (d7 + o9) (l ++ m)))), (9, .tup [], (List.set (α := O) (List.set (α := O) H k6 (rowO NI true (d7 + o9) (l ++ m))) q (.obj [vi room, rowC k6 (d7 + o9) (l ++ m).length 0 ((l ++ m).length) false])))] [] (List.set (α := O) (List.set (α := O) H k6 (rowO NI true (d7 + o9) (l ++ m))) q (.obj [vi room, rowC k6 (d7 + o9) (l ++ m).length 0 ((l ++ m).length) false]))
      (cast (And.intro (ob_load_ptr (P := pg) (A := an) (H := H) (t := 22) (ty := 0) (id := q) (off := 1) (n := 1) (cs := [vi room, rowC k6 d7 L8.length o9 l.length false]) (cs' := [rowC k6 d7 L8.length o9 l.length false]) (v := .one (rowC k6 d7 L8.length o9 l.length false)) (On.at hs3 1 rfl) (by kernel_rfl) (by kernel_rfl) (by kernel_rfl) (by kernel_rfl)) (And.intro (or_append (P := pg) (A := an) (H := H) (s := NI) (t := 22) (u := 22) (el := 3) (by_ := 8) (z := [vi 0]) (ty := 0) (pu := true) (puy := true) (id := k6) (d := d7) (o := o9) (n := l.length) (m := m.length) (l := L8) (lm := m) (y := sv NI b nil cp m) (d' := (d7 + o9)) (l' := (l ++ m)) (n' := (l ++ m).length) (On.at hs3 2 rfl) (slCells_slO (H := H) (s := NI) (b := b) (nil := nil) (capd := cp) (l := m) (n := m.length) (by first | rfl | omega | (simp only [List.length_nil]; omega) | (simp; done) | (simp; omega))) (by kernel_rfl) (by kernel_rfl) (by kernel_rfl) (by kernel_rfl) (by kernel_rfl) (by kernel_rfl) (by kernel_rfl) (by first | rfl | omega | (simp only [List.length_nil]; omega) | (simp; done) | (simp; omega)) (by first | rfl | omega | (simp only [List.length_nil]; omega) | (simp; done) | (simp; omega)) (by first | rfl | omega | (simp only [List.length_nil]; omega) | (simp; done) | (simp; omega)) (by omega) (by omega) (by omega) (congrArg (fun z => z ++ m) (show L8.drop o9 = l from (List.take_of_length_le (by rw [List.length_drop]; omega)).symm.trans (hl13))) (by first | (simp only [List.length_append]; done) | (simp only [List.length_append]; first | omega | (simp; done) | (simp; omega)))) (And.intro (ob_store_ptr (P := pg) (A := an) (H := (List.set (α := O) H k6 (rowO NI true (d7 + o9) (l ++ m)))) (t := 22) (ty := 0) (id := q) (off := 1) (cs := [vi room, rowC k6 d7 L8.length o9 l.length false]) (cs' := [vi room, rowC k6 (d7 + o9) (l ++ m).length 0 ((l ++ m).length) false]) (v := .one (rowC k6 (d7 + o9) (l ++ m).length 0 ((l ++ m).length) false)) (On.at (On.put (rowO NI true (d7 + o9) (l ++ m)) hs3 2 rfl) 1 rfl) (by kernel_rfl) (by kernel_rfl) (by kernel_rfl)) trivial))) (by kernel_rfl)) (by kernel_rfl) ?_
    refine Wp.gen (cs := [R, pts q (.obj [vi room, rowC k6 (d7 + o9) (l ++ m).length 0 ((l ++ m).length) false]), pts k6 (rowO NI true (d7 + o9) (l ++ m))]) (On.put (.obj [vi room, rowC k6 (d7 + o9) (l ++ m).length 0 ((l ++ m).length) false]) (On.put (rowO NI true (d7 + o9) (l ++ m)) hs3 2 rfl) 1 rfl) ?_
    intro H37 hs38
    refine Wp.regionSeq [] [(4, xi 0)] H37
      (cast trivial (by kernel_rfl)) (by kernel_rfl) ?_
    refine Wp.ret ?_
    refine ⟨Or.inr rfl, [.one (vi 0)], (by kernel_rfl), ?_⟩
    have hs39 : On [R, ringP NI q room (l ++ m)] H37 := On.shut (cs := [R, pts q (.obj [vi room, rowC k6 (d7 + o9) (l ++ m).length 0 ((l ++ m).length) false]), pts k6 (rowO NI true (d7 + o9) (l ++ m))]) [1, 2] [0] rfl (fun _ x => ring_row ⟨by omega, by omega, by first | rfl | omega | (simp only [List.length_nil]; omega) | (simp; done) | (simp; omega)⟩ (by first | rfl | omega | (simp only [List.length_nil]; omega) | (simp; done) | (simp; omega)) (by first | rfl | omega | (simp only [List.length_nil]; omega) | (simp; done) | (simp; omega)) (fun _ => by first | rfl | omega | (simp only [List.length_nil]; omega) | (simp; done) | (simp; omega)) ((dt0 rfl (Nat.le_refl _)).trans (show (l ++ m) = l ++ m from rfl)) x) hs38
    exact ⟨rfl, (On.pick [0, 1] [] rfl hs39)⟩
  ·
   refine Wp.regionSeq [(4, .y (.one (rowC k6 d7 L8.length o9 l.length cd10)), H), (6, .y (.one (rowC k6 d7 L8.length o9 l.length cd10)), H), (9, .tup [], (List.set (α := O) H q (.obj [vi room, rowC k6 d7 L8.length o9 l.length cd10])))] [] (List.set (α := O) H q (.obj [vi room, rowC k6 d7 L8.length o9 l.length cd10]))
     (cast (And.intro (ob_load_ptr (P := pg) (A := an) (H := H) (t := 22) (ty := 0) (id := q) (off := 1) (n := 1) (cs := [vi room, rowC k6 d7 L8.length o9 l.length cd10]) (cs' := [rowC k6 d7 L8.length o9 l.length cd10]) (v := .one (rowC k6 d7 L8.length o9 l.length cd10)) (On.at hs3 1 rfl) (by kernel_rfl) (by kernel_rfl) (by kernel_rfl) (by kernel_rfl)) (And.intro (ob_append_none (P := pg) (A := an) (H := H) (t := 22) (u := 22) (el := 3) (by_ := 8) (z := [vi 0]) (ty := 0) (sz := 1) (c := rowC k6 d7 L8.length o9 l.length cd10) (y := sv NI b nil cp m) (cs := l.flatMap (enc NI)) (n := l.length) (pu := true) (cs' := m.flatMap (enc NI)) (puy := true) (slCells_rowO (H := H) (s := NI) (pu := true) (capd := cd10) (id := k6) (d := d7) (o := o9) (n := l.length) (l := L8) (m := l) (On.at hs3 2 rfl) (by first | rfl | omega | (simp only [List.length_nil]; omega) | (simp; done) | (simp; omega)) (hl13)) (((slCells_slO (H := H) (s := NI) (b := b) (nil := nil) (capd := cp) (l := m) (n := m.length) (by first | rfl | omega | (simp only [List.length_nil]; omega) | (simp; done) | (simp; omega)))).trans (by rw [show m.length = 0 from by first | rfl | omega | (simp only [List.length_nil]; omega) | (simp; done) | (simp; omega)])) (by kernel_rfl) (by kernel_rfl) (by kernel_rfl) (by kernel_rfl) (by kernel_rfl) (by kernel_rfl)) (And.intro (ob_store_ptr (P := pg) (A := an) (H := H) (t := 22) (ty := 0) (id := q) (off := 1) (cs := [vi room, rowC k6 d7 L8.length o9 l.length cd10]) (cs' := [vi room, rowC k6 d7 L8.length o9 l.length cd10]) (v := .one (rowC k6 d7 L8.length o9 l.length cd10)) (On.at hs3 1 rfl) (by kernel_rfl) (by kernel_rfl) (by kernel_rfl)) trivial))) (by kernel_rfl)) (by kernel_rfl) ?_
   refine Wp.gen (cs := [R, pts q (.obj [vi room, rowC k6 d7 L8.length o9 l.length cd10]), pts k6 (rowO NI true d7 L8)]) (On.put (.obj [vi room, rowC k6 d7 L8.length o9 l.length cd10]) hs3 1 rfl) ?_
   intro H40 hs41
   refine Wp.regionSeq [] [(4, xi 0)] H40
     (cast trivial (by kernel_rfl)) (by kernel_rfl) ?_
   refine Wp.ret ?_
   refine ⟨Or.inr rfl, [.one (vi 0)], (by kernel_rfl), ?_⟩
   have hs42 : On [R, ringP NI q room (l ++ m)] H40 := On.shut (cs := [R, pts q (.obj [vi room, rowC k6 d7 L8.length o9 l.length cd10]), pts k6 (rowO NI true d7 L8)]) [1, 2] [0] rfl (fun _ x => ring_row ⟨by omega, by omega, by first | rfl | omega | (simp only [List.length_nil]; omega) | (simp; done) | (simp; omega)⟩ (by first | rfl | omega | (simp only [List.length_nil]; omega) | (simp; done) | (simp; omega)) (by first | rfl | omega | (simp only [List.length_nil]; omega) | (simp; done) | (simp; omega)) (fun h => by have := hc12 h; first | rfl | omega | (simp only [List.length_nil]; omega) | (simp; done) | (simp; omega)) ((hl13).trans (by rw [show m = [] from List.eq_nil_of_length_eq_zero (by omega), List.append_nil])) x) hs41
   exact ⟨rfl, (On.pick [0, 1] [] rfl hs42)⟩
theorem join_full_r (R : HP) (H : Go.Lg.Heap) (q : Nat) (room : Int) (l : List Int) (k d o : Nat) (cp : Bool) (L m : List Int) (hs : On [R, ringP NI q room l, pts k (rowO NI true d L)] H) (ho : o + m.length ≤ L.length) (hl : (L.drop o).take m.length = m) (h1 : room < (l.length : Int) + m.length) : ∃ rs H', Runs pg an 19 [.one (.ptr q 0), .one (rowC k d L.length o m.length cp)] H rs H' ∧ rs = [.one (vi 2)] ∧ On [R, ringP NI q room l, pts k (rowO NI true d L)] H' := by
 refine Runs.of (fn := Try.f19) Try.func19 rfl (by kernel_rfl) [(0, .y (.one (.ptr q 0))), (1, .y (.one (rowC k d L.length o m.length cp)))] (by kernel_rfl) ?_
 refine Wp.regionSeq [] [(0, .y (.one (.ptr q 0))), (1, .y (.one (rowC k d L.length o m.length cp)))] H
   (cast trivial (by kernel_rfl)) (by kernel_rfl) ?_
 refine Wp.seq ?_
 obtain ⟨⟨hb4a, hb4b, hb4c⟩, ⟨hl5, hs2⟩ | ⟨k6, d7, L8, o9, cd10, ho11, hc12, hl13, hs3⟩⟩ := ring_open hs 1 rfl
 ·
  have hl5n : (l.length : Int) = 0 := by rw [hl5]; rfl
  have hcall14 : Runs pg an 27 [.one (.ptr q 0)] H [.one (vb true)] H := by
   refine runs_of ?_
   refine Runs.of (fn := Try.f27) Try.func27 rfl (by kernel_rfl) [(0, .y (.one (.ptr q 0)))] (by kernel_rfl) ?_
   refine Wp.regionSeq [] [(0, .y (.one (.ptr q 0)))] H
     (cast trivial (by kernel_rfl)) (by kernel_rfl) ?_
   refine Wp.regionSeq [(6, xi room, H), (7, xb true, H)] [(2, xb true)] H
     (cast (And.intro (ob_load_ptr (P := pg) (A := an) (H := H) (t := 3) (ty := 0) (id := q) (off := 0) (n := 1) (cs := [vi room, .sl false true true [] 0]) (cs' := [vi room]) (v := .one (vi room)) (On.at hs2 2 rfl) (by kernel_rfl) (by kernel_rfl) (by kernel_rfl) (by kernel_rfl)) (And.intro (ob_raw (P := pg) (A := an) (vals := [xi room, xi 0]) (H := H) (op := .binOp .gtr 3 (.tmp 0) (.tmp 1) 3) (ty := 0) (r := xb (decide ((room : Int) > 0))) (v := xb true) (by kernel_rfl) (congrArg (fun z => xb z) (decide_eq_true (by omega)))) trivial)) (by kernel_rfl)) (by kernel_rfl) ?_
   refine Wp.ret ?_
   exact ⟨Or.inr rfl, [.one (vb true)], (by kernel_rfl), ⟨rfl, rfl⟩⟩
  refine Wp.regionSeq [(1, xb true, H)] [(0, .y (.one (.ptr q 0))), (1, .y (.one (rowC k d L.length o m.length cp))), (7, xb false)] H
    (cast (And.intro (ob_call (P := pg) (A := an) (H := H) (g := 27) (vals := [.y (.one (.ptr q 0))]) (xs0 := [.one (.ptr q 0)]) (res := [.one (vb true)]) (ats := #[]) (ty := 0) (v := xb true) (H' := H) [.tmp 0] (by kernel_rfl) (by kernel_rfl) hcall14 (by kernel_rfl)) trivial) (by kernel_rfl)) (by kernel_rfl) ?_
  refine Wp.condF (by kernel_rfl) ?_
  refine Wp.skip ?_
  refine Wp.seq ?_
  have hcall15 : Runs pg an 14 [.one (.ptr q 0)] H [.one (vi room)] H := by
   refine runs_of ?_
   refine Runs.of (fn := Try.f14) Try.func14 rfl (by kernel_rfl) [(0, .y (.one (.ptr q 0)))] (by kernel_rfl) ?_
   refine Wp.regionSeq [] [(0, .y (.one (.ptr q 0)))] H
     (cast trivial (by kernel_rfl)) (by kernel_rfl) ?_
   refine Wp.seq ?_
   have hcall16 : Runs pg an 27 [.one (.ptr q 0)] H [.one (vb true)] H := by
    refine runs_of ?_
    refine Runs.of (fn := Try.f27) Try.func27 rfl (by kernel_rfl) [(0, .y (.one (.ptr q 0)))] (by kernel_rfl) ?_
    refine Wp.regionSeq [] [(0, .y (.one (.ptr q 0)))] H
      (cast trivial (by kernel_rfl)) (by kernel_rfl) ?_
    refine Wp.regionSeq [(6, xi room, H), (7, xb true, H)] [(2, xb true)] H
      (cast (And.intro (ob_load_ptr (P := pg) (A := an) (H := H) (t := 3) (ty := 0) (id := q) (off := 0) (n := 1) (cs := [vi room, .sl false true true [] 0]) (cs' := [vi room]) (v := .one (vi room)) (On.at hs2 2 rfl) (by kernel_rfl) (by kernel_rfl) (by kernel_rfl) (by kernel_rfl)) (And.intro (ob_raw (P := pg) (A := an) (vals := [xi room, xi 0]) (H := H) (op := .binOp .gtr 3 (.tmp 0) (.tmp 1) 3) (ty := 0) (r := xb (decide ((room : Int) > 0))) (v := xb true) (by kernel_rfl) (congrArg (fun z => xb z) (decide_eq_true (by omega)))) trivial)) (by kernel_rfl)) (by kernel_rfl) ?_
    refine Wp.ret ?_
    exact ⟨Or.inr rfl, [.one (vb true)], (by kernel_rfl), ⟨rfl, rfl⟩⟩
   refine Wp.regionSeq [(1, xb true, H)] [(0, .y (.one (.ptr q 0))), (5, xb false)] H
     (cast (And.intro (ob_call (P := pg) (A := an) (H := H) (g := 27) (vals := [.y (.one (.ptr q 0))]) (xs0 := [.one (.ptr q 0)]) (res := [.one (vb true)]) (ats := #[]) (ty := 0) (v := xb true) (H' := H) [.tmp 0] (by kernel_rfl) (by kernel_rfl) hcall16 (by kernel_rfl)) trivial) (by kernel_rfl)) (by kernel_rfl) ?_
   refine Wp.condF (by kernel_rfl) ?_
   refine Wp.skip ?_
   refine Wp.regionSeq [(3, xi room, H), (7, .y (.one (.sl false true true [] 0)), H), (9, xi room, H)] [(2, xi room)] H
     (cast (And.intro (ob_load_ptr (P := pg) (A := an) (H := H) (t := 3) (ty := 0) (id := q) (off := 0) (n := 1) (cs := [vi room, .sl false true true [] 0]) (cs' := [vi room]) (v := .one (vi room)) (On.at hs2 2 rfl) (by kernel_rfl) (by kernel_rfl) (by kernel_rfl) (by kernel_rfl)) (And.intro (ob_load_ptr (P := pg) (A := an) (H := H) (t := 22) (ty := 0) (id := q) (off := 1) (n := 1) (cs := [vi room, .sl false true true [] 0]) (cs' := [.sl false true true [] 0]) (v := .one (.sl false true true [] 0)) (On.at hs2 2 rfl) (by kernel_rfl) (by kernel_rfl) (by kernel_rfl) (by kernel_rfl)) (And.intro (ob_raw (P := pg) (A := an) (vals := [xi room, xi 0]) (H := H) (op := .binOp .sub 3 (.tmp 0) (.tmp 1) 3) (ty := 0) (r := xi (IntKind.wrap .i64 (room - 0))) (v := xi room) (by kernel_rfl) (congrArg (fun z => xi z) ((wrap64 (by omega)).trans (by omega)))) trivial))) (by kernel_rfl)) (by kernel_rfl) ?_
   refine Wp.ret ?_
   exact ⟨Or.inr rfl, [.one (vi room)], (by kernel_rfl), ⟨rfl, rfl⟩⟩
  refine Wp.regionSeq [(1, xi (m.length : Int), H), (3, xi room, H), (4, xb true, H)] [(0, .y (.one (.ptr q 0))), (1, .y (.one (rowC k d L.length o m.length cp))), (12, xb true)] H
    (cast (And.intro (or_len (P := pg) (A := an) (H := H) (s := NI) (t := 22) (ty := 0) (pu := true) (capd := cp) (id := k) (d := d) (o := o) (n := m.length) (l := L) (e := (m.length : Int)) (On.at hs2 1 rfl) (by kernel_rfl) (by first | rfl | omega | (simp only [List.length_nil]; omega) | (simp; done) | (simp; omega))) (And.intro (ob_call (P := pg) (A := an) (H := H) (g := 14) (vals := [.y (.one (.ptr q 0))]) (xs0 := [.one (.ptr q 0)]) (res := [.one (vi room)]) (ats := #[]) (ty := 0) (v := xi room) (H' := H) [.tmp 0] (by kernel_rfl) (by kernel_rfl) hcall15 (by kernel_rfl)) (And.intro (ob_raw (P := pg) (A := an) (vals := [xi (m.length : Int), xi room]) (H := H) (op := .binOp .gtr 3 (.tmp 0) (.tmp 1) 3) (ty := 0) (r := xb (decide (((m.length : Int) : Int) > room))) (v := xb true) (by kernel_rfl) (congrArg (fun z => xb z) (decide_eq_true (by omega)))) trivial))) (by kernel_rfl)) (by kernel_rfl) ?_
  refine Wp.condT (by kernel_rfl) ?_
  refine Wp.regionSeq [] [(4, xi 2)] H
    (cast trivial (by kernel_rfl)) (by kernel_rfl) ?_
  refine Wp.ret ?_
  refine ⟨Or.inr rfl, [.one (vi 2)], (by kernel_rfl), ?_⟩
  have hs17 : On [R, pts k (rowO NI true d L), ringP NI q room l] H := On.shut (cs := [R, pts k (rowO NI true d L), pts q (.obj [vi room, .sl false true true [] 0])]) [2] [0, 1] rfl (fun _ x => ring_nil' (hl5) ⟨by omega, by omega⟩ x) hs2
  exact ⟨rfl, (On.pick [0, 2, 1] [] rfl hs17)⟩
 ·
  have hcall18 : Runs pg an 27 [.one (.ptr q 0)] H [.one (vb true)] H := by
   refine runs_of ?_
   refine Runs.of (fn := Try.f27) Try.func27 rfl (by kernel_rfl) [(0, .y (.one (.ptr q 0)))] (by kernel_rfl) ?_
   refine Wp.regionSeq [] [(0, .y (.one (.ptr q 0)))] H
     (cast trivial (by kernel_rfl)) (by kernel_rfl) ?_
   refine Wp.regionSeq [(6, xi room, H), (7, xb true, H)] [(2, xb true)] H
     (cast (And.intro (ob_load_ptr (P := pg) (A := an) (H := H) (t := 3) (ty := 0) (id := q) (off := 0) (n := 1) (cs := [vi room, rowC k6 d7 L8.length o9 l.length cd10]) (cs' := [vi room]) (v := .one (vi room)) (On.at hs3 2 rfl) (by kernel_rfl) (by kernel_rfl) (by kernel_rfl) (by kernel_rfl)) (And.intro (ob_raw (P := pg) (A := an) (vals := [xi room, xi 0]) (H := H) (op := .binOp .gtr 3 (.tmp 0) (.tmp 1) 3) (ty := 0) (r := xb (decide ((room : Int) > 0))) (v := xb true) (by kernel_rfl) (congrArg (fun z => xb z) (decide_eq_true (by omega)))) trivial)) (by kernel_rfl)) (by kernel_rfl) ?_
   refine Wp.ret ?_
   exact ⟨Or.inr rfl, [.one (vb true)], (by kernel_rfl), ⟨rfl, rfl⟩⟩
  refine Wp.regionSeq [(1, xb true, H)] [(0, .y (.one (.ptr q 0))), (1, .y (.one (rowC k d L.length o m.length cp))), (7, xb false)] H
    (cast (And.intro (ob_call (P := pg) (A := an) (H := H) (g := 27) (vals := [.y (.one (.ptr q 0))]) (xs0 := [.one (.ptr q 0)]) (res := [.one (vb true)]) (ats := #[]) (ty := 0) (v := xb true) (H' := H) [.tmp 0] (by kernel_rfl) (by kernel_rfl) hcall18 (by kernel_rfl)) trivial) (by kernel_rfl)) (by kernel_rfl) ?_
  refine Wp.condF (by kernel_rfl) ?_
  refine Wp.skip ?_
  refine Wp.seq ?_
  have hcall19 : Runs pg an 14 [.one (.ptr q 0)] H [.one (vi (room - (l.length : Int)))] H := by
   refine runs_of ?_
   refine Runs.of (fn := Try.f14) Try.func14 rfl (by kernel_rfl) [(0, .y (.one (.ptr q 0)))] (by kernel_rfl) ?_
   refine Wp.regionSeq [] [(0, .y (.one (.ptr q 0)))] H
     (cast trivial (by kernel_rfl)) (by kernel_rfl) ?_
   refine Wp.seq ?_
   have hcall20 : Runs pg an 27 [.one (.ptr q 0)] H [.one (vb true)] H := by
    refine runs_of ?_
    refine Runs.of (fn := Try.f27) Try.func27 rfl (by kernel_rfl) [(0, .y (.one (.ptr q 0)))] (by kernel_rfl) ?_
    refine Wp.regionSeq [] [(0, .y (.one (.ptr q 0)))] H
      (cast trivial (by kernel_rfl)) (by kernel_rfl) ?_
    refine Wp.regionSeq [(6, xi room, H), (7, xb true, H)] [(2, xb true)] H
      (cast (And.intro (ob_load_ptr (P := pg) (A := an) (H := H) (t := 3) (ty := 0) (id := q) (off := 0) (n := 1) (cs := [vi room, rowC k6 d7 L8.length o9 l.length cd10]) (cs' := [vi room]) (v := .one (vi room)) (On.at hs3 2 rfl) (by kernel_rfl) (by kernel_rfl) (by kernel_rfl) (by kernel_rfl)) (And.intro (ob_raw (P := pg) (A := an) (vals := [xi room, xi 0]) (H := H) (op := .binOp .gtr 3 (.tmp 0) (.tmp 1) 3) (ty := 0) (r := xb (decide ((room : Int) > 0))) (v := xb true) (by kernel_rfl) (congrArg (fun z => xb z) (decide_eq_true (by omega)))) trivial)) (by kernel_rfl)) (by kernel_rfl) ?_
    refine Wp.ret ?_
    exact ⟨Or.inr rfl, [.one (vb true)], (by kernel_rfl), ⟨rfl, rfl⟩⟩
   refine Wp.regionSeq [(1, xb true, H)] [(0, .y (.one (.ptr q 0))), (5, xb false)] H
     (cast (And.intro (ob_call (P := pg) (A := an) (H := H) (g := 27) (vals := [.y (.one (.ptr q 0))]) (xs0 := [.one (.ptr q 0)]) (res := [.one (vb true)]) (ats := #[]) (ty := 0) (v := xb true) (H' := H) [.tmp 0] (by kernel_rfl) (by kernel_rfl) hcall20 (by kernel_rfl)) trivial) (by kernel_rfl)) (by kernel_rfl) ?_
   refine Wp.condF (by kernel_rfl) ?_
   refine Wp.skip ?_
   refine Wp.regionSeq [(3, xi room, H), (7, .y (.one (rowC k6 d7 L8.length o9 l.length cd10)), H), (8, xi (l.length : Int), H), (9, xi (room - (l.length : Int)), H)] [(2, xi (room - (l.length : Int)))] H
     (cast (And.intro (ob_load_ptr (P := pg) (A := an) (H := H) (t := 3) (ty := 0) (id := q) (off := 0) (n := 1) (cs := [vi room, rowC k6 d7 L8.length o9 l.length cd10]) (cs' := [vi room]) (v := .one (vi room)) (On.at hs3 2 rfl) (by kernel_rfl) (by kernel_rfl) (by kernel_rfl) (by kernel_rfl)) (And.intro (ob_load_ptr (P := pg) (A := an) (H := H) (t := 22) (ty := 0) (id := q) (off := 1) (n := 1) (cs := [vi room, rowC k6 d7 L8.length o9 l.length cd10]) (cs' := [rowC k6 d7 L8.length o9 l.length cd10]) (v := .one (rowC k6 d7 L8.length o9 l.length cd10)) (On.at hs3 2 rfl) (by kernel_rfl) (by kernel_rfl) (by kernel_rfl) (by kernel_rfl)) (And.intro (or_len (P := pg) (A := an) (H := H) (s := NI) (t := 22) (ty := 0) (pu := true) (capd := cd10) (id := k6) (d := d7) (o := o9) (n := l.length) (l := L8) (e := (l.length : Int)) (On.at hs3 3 rfl) (by kernel_rfl) (by first | rfl | omega | (simp only [List.length_nil]; omega) | (simp; done) | (simp; omega))) (And.intro (ob_raw (P := pg) (A := an) (vals := [xi room, xi (l.length : Int)]) (H := H) (op := .binOp .sub 3 (.tmp 0) (.tmp 1) 3) (ty := 0) (r := xi (IntKind.wrap .i64 (room - (l.length : Int)))) (v := xi (room - (l.length : Int))) (by kernel_rfl) (congrArg (fun z => xi z) ((wrap64 (by omega)).trans (by omega)))) trivial)))) (by kernel_rfl)) (by kernel_rfl) ?_
   refine Wp.ret ?_
   exact ⟨Or.inr rfl, [.one (vi (room - (l.length : Int)))], (by kernel_rfl), ⟨rfl, rfl⟩⟩
  refine Wp.regionSeq [(1, xi (m.length : Int), H), (3, xi (room - (l.length : Int)), H), (4, xb true, H)] [(0, .y (.one (.ptr q 0))), (1, .y (.one (rowC k d L.length o m.length cp))), (12, xb true)] H
    (cast (And.intro (or_len (P := pg) (A := an) (H := H) (s := NI) (t := 22) (ty := 0) (pu := true) (capd := cp) (id := k) (d := d) (o := o) (n := m.length) (l := L) (e := (m.length : Int)) (On.at hs3 1 rfl) (by kernel_rfl) (by first | rfl | omega | (simp only [List.length_nil]; omega) | (simp; done) | (simp; omega))) (And.intro (ob_call (P := pg) (A := an) (H := H) (g := 14) (vals := [.y (.one (.ptr q 0))]) (xs0 := [.one (.ptr q 0)]) (res := [.one (vi (room - (l.length : Int)))]) (ats := #[]) (ty := 0) (v := xi (room - (l.length : Int))) (H' := H) [.tmp 0] (by kernel_rfl) (by kernel_rfl) hcall19 (by kernel_rfl)) (And.intro (ob_raw (P := pg) (A := an) (vals := [xi (m.length : Int), xi (room - (l.length : Int))]) (H := H) (op := .binOp .gtr 3 (.tmp 0) (.tmp 1) 3) (ty := 0) (r := xb (decide (((m.length : Int) : Int) > (room - (l.length : Int))))) (v := xb true) (by kernel_rfl) (congrArg (fun z => xb z) (decide_eq_true (by omega)))) trivial))) (by kernel_rfl)) (by kernel_rfl) ?_
  refine Wp.condT (by kernel_rfl) ?_
  refine Wp.regionSeq [] [(4, xi 2)] H
    (cast trivial (by kernel_rfl)) (by kernel_rfl) ?_
  refine Wp.ret ?_
  refine ⟨Or.inr rfl, [.one (vi 2)], (by kernel_rfl), ?_⟩
  have hs21 : On [R, pts k (rowO NI true d L), ringP NI q room l] H := On.shut (cs := [R, pts k (rowO NI true d L), pts q (.obj [vi room, rowC k6 d7 L8.length o9 l.length cd10]), pts k6 (rowO NI true d7 L8)]) [2, 3] [0, 1] rfl (fun _ x => ring_row ⟨by omega, by omega, by first | rfl | omega | (simp only [List.length_nil]; omega) | (simp; done) | (simp; omega)⟩ (by first | rfl | omega | (simp only [List.length_nil]; omega) | (simp; done) | (simp; omega)) (by first | rfl | omega | (simp only [List.length_nil]; omega) | (simp; done) | (simp; omega)) (fun h => by have := hc12 h; first | rfl | omega | (simp only [List.length_nil]; omega) | (simp; done) | (simp; omega)) (hl13) x) hs3
  exact ⟨rfl, (On.pick [0, 2, 1] [] rfl hs21)⟩
theorem join_ok_r (R : HP) (H : Go.Lg.Heap) (q : Nat) (room : Int) (l : List Int) (k d o : Nat) (cp : Bool) (L m : List Int) (hs : On [R, ringP NI q room l, pts k (rowO NI true d L)] H) (ho : o + m.length ≤ L.length) (hl : (L.drop o).take m.length = m) (h1 : (l.length : Int) + m.length ≤ room) : ∃ rs H', Runs pg an 19 [.one (.ptr q 0), .one (rowC k d L.length o m.length cp)] H rs H' ∧ rs = [.one (vi 0)] ∧ On [R, ringP NI q room (l ++ m), pts k (rowO NI true d L)] H' := by
 have hle1 : ((l ++ m).length : Int) = l.length + m.length := by rw [List.length_append]; omega
 refine Runs.of (fn := Try.f19) Try.func19 rfl (by kernel_rfl) [(0, .y (.one (.ptr q 0))), (1, .y (.one (rowC k d L.length o m.length cp)))] (by kernel_rfl) ?_
 refine Wp.regionSeq [] [(0, .y (.one (.ptr q 0))), (1, .y (.one (rowC k d L.length o m.length cp)))] H
   (cast trivial (by kernel_rfl)) (by kernel_rfl) ?_
 refine Wp.seq ?_
 obtain ⟨⟨hb4a, hb4b, hb4c⟩, ⟨hl5, hs2⟩ | ⟨k6, d7, L8, o9, cd10, ho11, hc12, hl13, hs3⟩⟩ := ring_open hs 1 rfl
 ·
  have hl5n : (l.length : Int) = 0 := by rw [hl5]; rfl
  have hcall14 : Runs pg an 27 [.one (.ptr q 0)] H [.one (vb true)] H := by
   refine runs_of ?_
   refine Runs.of (fn := Try.f27) Try.func27 rfl (by kernel_rfl) [(0, .y (.one (.ptr q 0)))] (by kernel_rfl) ?_
   refine Wp.regionSeq [] [(0, .y (.one (.ptr q 0)))] H
     (cast trivial (by kernel_rfl)) (by kernel_rfl) ?_
   refine Wp.regionSeq [(6, xi room, H), (7, xb true, H)] [(2, xb true)] H
     (cast (And.intro (ob_load_ptr (P := pg) (A := an) (H := H) (t := 3) (ty := 0) (id := q) (off := 0) (n := 1) (cs := [vi room, .sl false true true [] 0]) (cs' := [vi room]) (v := .one (vi room)) (On.at hs2 2 rfl) (by kernel_rfl) (by kernel_rfl) (by kernel_rfl) (by kernel_rfl)) (And.intro (ob_raw (P := pg) (A := an) (vals := [xi room, xi 0]) (H := H) (op := .binOp .gtr 3 (.tmp 0) (.tmp 1) 3) (ty := 0) (r := xb (decide ((room : Int) > 0))) (v := xb true) (by kernel_rfl) (congrArg (fun z => xb z) (decide_eq_true (by omega)))) trivial)) (by kernel_rfl)) (by kernel_rfl) ?_
   refine Wp.ret ?_
   exact ⟨Or.inr rfl, [.one (vb true)], (by kernel_rfl), ⟨rfl, rfl⟩⟩
  refine Wp.regionSeq [(1, xb true, H)] [(0, .y (.one (.ptr q 0))), (1, .y (.one (rowC k d L.length o m.length cp))), (7, xb false)] H
    (cast (And.intro (ob_call (P := pg) (A := an) (H := H) (g := 27) (vals := [.y (.one (.ptr q 0))]) (xs0 := [.one (.ptr q 0)]) (res := [.one (vb true)]) (ats := #[]) (ty := 0) (v := xb true) (H' := H) [.tmp 0] (by kernel_rfl) (by kernel_rfl) hcall14 (by kernel_rfl)) trivial) (by kernel_rfl)) (by kernel_rfl) ?_
  refine Wp.condF (by kernel_rfl) ?_
  refine Wp.skip ?_
  refine Wp.seq ?_
  have hcall15 : Runs pg an 14 [.one (.ptr q 0)] H [.one (vi room)] H := by
   refine runs_of ?_
   refine Runs.of (fn := Try.f14) Try.func14 rfl (by kernel_rfl) [(0, .y (.one (.ptr q 0)))] (by kernel_rfl) ?_
   refine Wp.regionSeq [] [(0, .y (.one (.ptr q 0)))] H
     (cast trivial (by kernel_rfl)) (by kernel_rfl) ?_
   refine Wp.seq ?_
   have hcall16 : Runs pg an 27 [.one (.ptr q 0)] H [.one (vb true)] H := by
    refine runs_of ?_
    refine Runs.of (fn := Try.f27) Try.func27 rfl (by kernel_rfl) [(0, .y (.one (.ptr q 0)))] (by kernel_rfl) ?_
    refine Wp.regionSeq [] [(0, .y (.one (.ptr q 0)))] H
      (cast trivial (by kernel_rfl)) (by kernel_rfl) ?_
    refine Wp.regionSeq [(6, xi room, H), (7, xb true, H)] [(2, xb true)] H
      (cast (And.intro (ob_load_ptr (P := pg) (A := an) (H := H) (t := 3) (ty := 0) (id := q) (off := 0) (n := 1) (cs := [vi room, .sl false true true [] 0]) (cs' := [vi room]) (v := .one (vi room)) (On.at hs2 2 rfl) (by kernel_rfl) (by kernel_rfl) (by kernel_rfl) (by kernel_rfl)) (And.intro (ob_raw (P := pg) (A := an) (vals := [xi room, xi 0]) (H := H) (op := .binOp .gtr 3 (.tmp 0) (.tmp 1) 3) (ty := 0) (r := xb (decide ((room : Int) > 0))) (v := xb true) (by kernel_rfl) (congrArg (fun z => xb z) (decide_eq_true (by omega)))) trivial)) (by kernel_rfl)) (by kernel_rfl) ?_
    refine Wp.ret ?_
    exact ⟨Or.inr rfl, [.one (vb true)], (by kernel_rfl), ⟨rfl, rfl⟩⟩
   refine Wp.regionSeq [(1, xb true, H)] [(0, .y (.one (.ptr q 0))), (5, xb false)] H
     (cast (And.intro (ob_call (P := pg) (A := an) (H := H) (g := 27) (vals := [.y (.one (.ptr q 0))]) (xs0 := [.one (.ptr q 0)]) (res := [.one (vb true)]) (ats := #[]) (ty := 0) (v := xb true) (H' := H) [.tmp 0] (by kernel_rfl) (by kernel_rfl) hcall16 (by kernel_rfl)) trivial) (by kernel_rfl)) (by kernel_rfl) ?_
   refine Wp.condF (by kernel_rfl) ?_
   refine Wp.skip ?_
   refine Wp.regionSeq [(3, xi room, H), (7, .y (.one (.sl false true true [] 0)), H), (9, xi room, H)] [(2, xi room)] H
     (cast (And.intro (ob_load_ptr (P := pg) (A := an) (H := H) (t := 3) (ty := 0) (id := q) (off := 0) (n := 1) (cs := [vi room, .sl false true true [] 0]) (cs' := [vi room]) (v := .one (vi room)) (On.at hs2 2 rfl) (by kernel_rfl) (by kernel_rfl) (by kernel_rfl) (by kernel_rfl)) (And.intro (ob_load_ptr (P := pg) (A := an) (H := H) (t := 22) (ty := 0) (id := q) (off := 1) (n := 1) (cs := [vi room, .sl false true true [] 0]) (cs' := [.sl false true true [] 0]) (v := .one (.sl false true true [] 0)) (On.at hs2 2 rfl) (by kernel_rfl) (by kernel_rfl) (by kernel_rfl) (by kernel_rfl)) (And.intro (ob_raw (P := pg) (A := an) (vals := [xi room, xi 0]) (H := H) (op := .binOp .sub 3 (.tmp 0) (.tmp 1) 3) (ty := 0) (r := xi (IntKind.wrap .i64 (room - 0))) (v := xi room) (by kernel_rfl) (congrArg (fun z => xi z) ((wrap64 (by omega)).trans (by omega)))) trivial))) (by kernel_rfl)) (by kernel_rfl) ?_
   refine Wp.ret ?_
   exact ⟨Or.inr rfl, [.one (vi room)], (by kernel_rfl), ⟨rfl, rfl⟩⟩
  refine Wp.regionSeq [(1, xi (m.length : Int), H), (3, xi room, H), (4, xb false, H)] [(0, .y (.one (.ptr q 0))), (1, .y (.one (rowC k d L.length o m.length cp))), (12, xb false)] H
    (cast (And.intro (or_len (P := pg) (A := an) (H := H) (s := NI) (t := 22) (ty := 0) (pu := true) (capd := cp) (id := k) (d := d) (o := o) (n := m.length) (l := L) (e := (m.length : Int)) (On.at hs2 1 rfl) (by kernel_rfl) (by first | rfl | omega | (simp only [List.length_nil]; omega) | (simp; done) | (simp; omega))) (And.intro (ob_call (P := pg) (A := an) (H := H) (g := 14) (vals := [.y (.one (.ptr q 0))]) (xs0 := [.one (.ptr q 0)]) (res := [.one (vi room)]) (ats := #[]) (ty := 0) (v := xi room) (H' := H) [.tmp 0] (by kernel_rfl) (by kernel_rfl) hcall15 (by kernel_rfl)) (And.intro (ob_raw (P := pg) (A := an) (vals := [xi (m.length : Int), xi room]) (H := H) (op := .binOp .gtr 3 (.tmp 0) (.tmp 1) 3) (ty := 0) (r := xb (decide (((m.length : Int) : Int) > room))) (v := xb false) (by kernel_rfl) (congrArg (fun z => xb z) (decide_eq_false (by omega)))) trivial))) (by kernel_rfl)) (by kernel_rfl) ?_
  refine Wp.condF (by kernel_rfl) ?_
  refine Wp.skip ?_
  by_cases c17 : (0 : Int) < (m.length : Int)
  ·
   obtain ⟨n18, hn18⟩ : ∃ n, n = List.length (H : Go.Lg.Heap) := ⟨_, rfl⟩
   refine Wp.regionSeq [(4, .y (.one (.sl false true true [] 0)), H), (6, .y (.one (rowC n18 0 m.length 0 m.length false)), (H ++ [rowO NI true 0 m])), (9, .tup [], (List.set (α := O) (H ++ [rowO NI true 0 m]) q (.obj [vi room, rowC n18 0 m.length 0 m.length false])))] [] (List.set (α := O) (H ++ [rowO NI true 0 m]) q (.obj [vi room, rowC n18 0 m.length 0 m.length false]))
     (cast (And.intro (ob_load_ptr (P := pg) (A := an) (H := H) (t := 22) (ty := 0) (id := q) (off := 1) (n := 1) (cs := [vi room, .sl false true true [] 0]) (cs' := [.sl false true true [] 0]) (v := .one (.sl false true true [] 0)) (On.at hs2 2 rfl) (by kernel_rfl) (by kernel_rfl) (by kernel_rfl) (by kernel_rfl)) (And.intro (or_append_new (P := pg) (A := an) (H := H) (s := NI) (t := 22) (u := 22) (el := 3) (by_ := 8) (z := [vi 0]) (ty := 0) (b' := false) (nil' := true) (pu := true) (puy := true) (m := m.length) (n' := m.length) (k := n18) (nl := 0) (l := ([] : List Int)) (lm := m) (l' := m) (y := rowC k d L.length o m.length cp) hn18 (by first | rfl | omega | (simp only [List.length_nil]; omega) | (simp; done) | (simp; omega)) (by kernel_rfl) (slCells_rowO (H := H) (s := NI) (pu := true) (capd := cp) (id := k) (d := d) (o := o) (n := m.length) (l := L) (m := m) (On.at hs2 1 rfl) (by first | rfl | omega | (simp only [List.length_nil]; omega) | (simp; done) | (simp; omega)) (hl)) (by kernel_rfl) (by kernel_rfl) (by kernel_rfl) (by kernel_rfl) (by kernel_rfl) (by kernel_rfl) (by kernel_rfl) (by first | rfl | omega | (simp only [List.length_nil]; omega) | (simp; done) | (simp; omega)) (by first | rfl | omega | (simp only [List.length_nil]; omega) | (simp; done) | (simp; omega)) (by omega) (by omega) (List.nil_append _) (by first | rfl | omega | (simp only [List.length_append, List.length_nil]; omega) | (simp; done) | (simp; omega))) (And.intro (ob_store_ptr (P := pg) (A := an) (H := (H ++ [rowO NI true 0 m])) (t := 22) (ty := 0) (id := q) (off := 1) (cs := [vi room, .sl false true true [] 0]) (cs' := [vi room, rowC n18 0 m.length 0 m.length false]) (v := .one (rowC n18 0 m.length 0 m.length false)) (On.at (On.new' hn18 (rowO NI true 0 m) hs2) 2 rfl) (by kernel_rfl) (by kernel_rfl) (by kernel_rfl)) trivial))) (by kernel_rfl)) (by kernel_rfl) ?_
   refine Wp.gen (cs := [R, pts k (rowO NI true d L), pts q (.obj [vi room, rowC n18 0 m.length 0 m.length false]), pts n18 (rowO NI true 0 m)]) (On.put (.obj [vi room, rowC n18 0 m.length 0 m.length false]) (On.new' hn18 (rowO NI true 0 m) hs2) 2 rfl) ?_
   intro H19 hs20
   refine Wp.regionSeq [] [(4, xi 0)] H19
     (cast trivial (by kernel_rfl)) (by kernel_rfl) ?_
   refine Wp.ret ?_
   refine ⟨Or.inr rfl, [.one (vi 0)], (by kernel_rfl), ?_⟩
   have hs21 : On [R, pts k (rowO NI true d L), ringP NI q room (l ++ m)] H19 := On.shut (cs := [R, pts k (rowO NI true d L), pts q (.obj [vi room, rowC n18 0 m.length 0 m.length false]), pts n18 (rowO NI true 0 m)]) [2, 3] [0, 1] rfl (fun _ x => ring_row ⟨by omega, by omega, by first | rfl | omega | (simp only [List.length_nil]; omega) | (simp; done) | (simp; omega)⟩ (by first | rfl | omega | (simp only [List.length_nil]; omega) | (simp; done) | (simp; omega)) (by first | rfl | omega | (simp only [List.length_nil]; omega) | (simp; done) | (simp; omega)) (fun _ => by first | rfl | omega | (simp only [List.length_nil]; omega) | (simp; done) | (simp; omega)) ((dt0 rfl (Nat.le_refl _)).trans (by rw [hl5, List.nil_append])) x) hs20
   exact ⟨rfl, (On.pick [0, 2, 1] [] rfl hs21)⟩
  ·
   refine Wp.regionSeq [(4, .y (.one (.sl false true true [] 0)), H), (6, .y (.one (.sl false true true [] 0)), H), (9, .tup [], (List.set (α := O) H q (.obj [vi room, .sl false true true [] 0])))] [] (List.set (α := O) H q (.obj [vi room, .sl false true true [] 0]))
     (cast (And.intro (ob_load_ptr (P := pg) (A := an) (H := H) (t := 22) (ty := 0) (id := q) (off := 1) (n := 1) (cs := [vi room, .sl false true true [] 0]) (cs' := [.sl false true true [] 0]) (v := .one (.sl false true true [] 0)) (On.at hs2 2 rfl) (by kernel_rfl) (by kernel_rfl) (by kernel_rfl) (by kernel_rfl)) (And.intro (ob_append_none (P := pg) (A := an) (H := H) (t := 22) (u := 22) (el := 3) (by_ := 8) (z := [vi 0]) (ty := 0) (sz := 1) (c := .sl false true true [] 0) (y := rowC k d L.length o m.length cp) (cs := ([] : List Int).flatMap (enc NI)) (n := 0) (pu := true) (cs' := m.flatMap (enc NI)) (puy := true) (slCells_slO (H := H) (s := NI) (b := false) (nil := true) (capd := true) (l := ([] : List Int)) (n := 0) (by first | rfl | omega | (simp only [List.length_nil]; omega) | (simp; done) | (simp; omega))) (((slCells_rowO (H := H) (s := NI) (pu := true) (capd := cp) (id := k) (d := d) (o := o) (n := m.length) (l := L) (m := m) (On.at hs2 1 rfl) (by first | rfl | omega | (simp only [List.length_nil]; omega) | (simp; done) | (simp; omega)) (hl))).trans (by rw [show m.length = 0 from by first | rfl | omega | (simp only [List.length_nil]; omega) | (simp; done) | (simp; omega)])) (by kernel_rfl) (by kernel_rfl) (by kernel_rfl) (by kernel_rfl) (by kernel_rfl) (by kernel_rfl)) (And.intro (ob_store_ptr (P := pg) (A := an) (H := H) (t := 22) (ty := 0) (id := q) (off := 1) (cs := [vi room, .sl false true true [] 0]) (cs' := [vi room, .sl false true true [] 0]) (v := .one (.sl false true true [] 0)) (On.at hs2 2 rfl) (by kernel_rfl) (by kernel_rfl) (by kernel_rfl)) trivial))) (by kernel_rfl)) (by kernel_rfl) ?_
   refine Wp.gen (cs := [R, pts k (rowO NI true d L), pts q (.obj [vi room, .sl false true true [] 0])]) (On.put (.obj [vi room, .sl false true true [] 0]) hs2 2 rfl) ?_
   intro H22 hs23
   refine Wp.regionSeq [] [(4, xi 0)] H22
     (cast trivial (by kernel_rfl)) (by kernel_rfl) ?_
   refine Wp.ret ?_
   refine ⟨Or.inr rfl, [.one (vi 0)], (by kernel_rfl), ?_⟩
   have hs24 : On [R, pts k (rowO NI true d L), ringP NI q room (l ++ m)] H22 := On.shut (cs := [R, pts k (rowO NI true d L), pts q (.obj [vi room, .sl false true true [] 0])]) [2] [0, 1] rfl (fun _ x => ring_nil' (by rw [hl5, List.nil_append]; exact List.eq_nil_of_length_eq_zero (by omega)) ⟨by omega, by omega⟩ x) hs23
   exact ⟨rfl, (On.pick [0, 2, 1] [] rfl hs24)⟩
 ·
  have hcall25 : Runs pg an 27 [.one (.ptr q 0)] H [.one (vb true)] H := by
   refine runs_of ?_
   refine Runs.of (fn := Try.f27) Try.func27 rfl (by kernel_rfl) [(0, .y (.one (.ptr q 0)))] (by kernel_rfl) ?_
   refine Wp.regionSeq [] [(0, .y (.one (.ptr q 0)))] H
     (cast trivial (by kernel_rfl)) (by kernel_rfl) ?_
   refine Wp.regionSeq [(6, xi room, H), (7, xb true, H)] [(2, xb true)] H
     (cast (And.intro (ob_load_ptr (P := pg) (A := an) (H := H) (t := 3) (ty := 0) (id := q) (off := 0) (n := 1) (cs := [vi room, rowC k6 d7 L8.length o9 l.length cd10]) (cs' := [vi room]) (v := .one (vi room)) (On.at hs3 2 rfl) (by kernel_rfl) (by kernel_rfl) (by kernel_rfl) (by kernel_rfl)) (And.intro (ob_raw (P := pg) (A := an) (vals := [xi room, xi 0]) (H := H) (op := .binOp .gtr 3 (.tmp 0) (.tmp 1) 3) (ty := 0) (r := xb (decide ((room : Int) > 0))) (v := xb true) (by kernel_rfl) (congrArg (fun z => xb z) (decide_eq_true (by omega)))) trivial)) (by kernel_rfl)) (by kernel_rfl) ?_
   refine Wp.ret ?_
   exact ⟨Or.inr rfl, [.one (vb true)], (by kernel_rfl), ⟨rfl, rfl⟩⟩
  refine Wp.regionSeq [(1, xb true, H)] [(0, .y (.one (.ptr q 0))), (1, .y (.one (rowC k d L.length o m.length cp))), (7, xb false)] H
    (cast (And.intro (ob_call (P := pg) (A := an) (H := H) (g := 27) (vals := [.y (.one (.ptr q 0))]) (xs0 := [.one (.ptr q 0)]) (res := [.one (vb true)]) (ats := #[]) (ty := 0) (v := xb true) (H' := H) [.tmp 0] (by kernel_rfl) (by kernel_rfl) hcall25 (by kernel_rfl)) trivial) (by kernel_rfl)) (by kernel_rfl) ?_
  refine Wp.condF (by kernel_rfl) ?_
  refine Wp.skip ?_
  refine Wp.seq ?_
  have hcall26 : Runs pg an 14 [.one (.ptr q 0)] H [.one (vi (room - (l.length : Int)))] H := by
   refine runs_of ?_
   refine Runs.of (fn := Try.f14) Try.func14 rfl (by kernel_rfl) [(0, .y (.one (.ptr q 0)))] (by kernel_rfl) ?_
   refine Wp.regionSeq [] [(0, .y (.one (.ptr q 0)))] H
     (cast trivial (by kernel_rfl)) (by kernel_rfl) ?_
   refine Wp.seq ?_
   have hcall27 : Runs pg an 27 [.one (.ptr q 0)] H [.one (vb true)] H := by
    refine runs_of ?_
    refine Runs.of (fn := Try.f27) Try.func27 rfl (by kernel_rfl) [(0, .y (.one (.ptr q 0)))] (by kernel_rfl) ?_
    refine Wp.regionSeq [] [(0, .y (.one (.ptr q 0)))] H
      (cast trivial (by kernel_rfl)) (by kernel_rfl) ?_
    refine Wp.regionSeq [(6, xi room, H), (7, xb true, H)] [(2, xb true)] H
      (cast (And.intro (ob_load_ptr (P := pg) (A := an) (H := H) (t := 3) (ty := 0) (id := q) (off := 0) (n := 1) (cs := [vi room, rowC k6 d7 L8.length o9 l.length cd10]) (cs' := [vi room]) (v := .one (vi room)) (On.at hs3 2 rfl) (by kernel_rfl) (by kernel_rfl) (by kernel_rfl) (by kernel_rfl)) (And.intro (ob_raw (P := pg) (A := an) (vals := [xi room, xi 0]) (H := H) (op := .binOp .gtr 3 (.tmp 0) (.tmp 1) 3) (ty := 0) (r := xb (decide ((room : Int) > 0))) (v := xb true) (by kernel_rfl) (congrArg (fun z => xb z) (decide_eq_true (by omega)))) trivial)) (by kernel_rfl)) (by kernel_rfl) ?_
    refine Wp.ret ?_
    exact ⟨Or.inr rfl, [.one (vb true)], (by kernel_rfl), ⟨rfl, rfl⟩⟩
   refine Wp.regionSeq [(1, xb true, H)] [(0, .y (.one (.ptr q 0))), (5, xb false)] H
     (cast (And.intro (ob_call (P := pg) (A := an) (H := H) (g := 27) (vals := [.y (.one (.ptr q 0))]) (xs0 := [.one (.ptr q 0)]) (res := [.one (vb true)]) (ats := #[]) (ty := 0) (v := xb true) (H' := H) [.tmp 0] (by kernel_rfl) (by kernel_rfl) hcall27 (by kernel_rfl)) trivial) (by kernel_rfl)) (by kernel_rfl) ?_
   refine Wp.condF (by kernel_rfl) ?_
   refine Wp.skip ?_
   refine Wp.regionSeq [(3, xi room, H), (7, .y (.one (rowC k6 d7 L8.length o9 l.length cd10)), H), (8, xi (l.length : Int), H), (9, xi (room - (l.length : Int)), H)] [(2, xi (room - (l.length : Int)))] H
     (cast (And.intro (ob_load_ptr (P := pg) (A := an) (H := H) (t := 3) (ty := 0) (id := q) (off := 0) (n := 1) (cs := [vi room, rowC k6 d7 L8.length o9 l.length cd10]) (cs' := [vi room]) (v := .one (vi room)) (On.at hs3 2 rfl) (by kernel_rfl) (by kernel_rfl) (by kernel_rfl) (by kernel_rfl)) (And.intro (ob_load_ptr (P := pg) (A := an) (H := H) (t := 22) (ty := 0) (id := q) (off := 1) (n := 1) (cs := [vi room, rowC k6 d7 L8.length o9 l.length cd10]) (cs' := [rowC k6 d7 L8.length o9 l.length cd10]) (v := .one (rowC k6 d7 L8.length o9 l.length cd10)) (On.at hs3 2 rfl) (by kernel_rfl) (by kernel_rfl) (by kernel_rfl) (by kernel_rfl)) (And.intro (or_len (P := pg) (A := an) (H := H) (s := NI) (t := 22) (ty := 0) (pu := true) (capd := cd10) (id := k6) (d := d7) (o := o9) (n := l.length) (l := L8) (e := (l.length : Int)) (On.at hs3 3 rfl) (by kernel_rfl) (by first | rfl | omega | (simp only [List.length_nil]; omega) | (simp; done) | (simp; omega))) (And.intro (ob_raw (P := pg) (A := an) (vals := [xi room, xi (l.length : Int)]) (H := H) (op := .binOp .sub 3 (.tmp 0) (.tmp 1) 3) (ty := 0) (r := xi (IntKind.wrap .i64 (room - (l.length : Int)))) (v := xi (room - (l.length : Int))) (by kernel_rfl) (congrArg (fun z => xi z) ((wrap64 (by omega)).trans (by omega)))) trivial)))) (by kernel_rfl)) (by kernel_rfl) ?_
   refine Wp.ret ?_
   exact ⟨Or.inr rfl, [.one (vi (room - (l.length : Int)))], (by kernel_rfl), ⟨rfl, rfl⟩⟩
  refine Wp.regionSeq [(1, xi (m.length : Int), H), (3, xi (room - (l.length : Int)), H), (4, xb false, H)] [(0, .y (.one (.ptr q 0))), (1, .y (.one (rowC k d L.length o m.length cp))), (12, xb false)] H
    (cast (And.intro (or_len (P := pg) (A := an) (H := H) (s := NI) (t := 22) (ty := 0) (pu := true) (capd := cp) (id := k) (d := d) (o := o) (n := m.length) (l := L) (e := (m.length : Int)) (On.at hs3 1 rfl) (by kernel_rfl) (by first | rfl | omega | (simp only [List.length_nil]; omega) | (simp; done) | (simp; omega))) (And.intro (ob_call (P := pg) (A := an) (H := H) (g := 14) (vals := [.y (.one (.ptr q 0))]) (xs0 := [.one (.ptr q 0)]) (res := [.one (vi (room - (l.length : Int)))]) (ats := #[]) (ty := 0) (v := xi (room - (l.length : Int))) (H' := H) [.tmp 0] (by kernel_rfl) (by kernel_rfl) hcall26 (by kernel_rfl)) (And.intro (ob_raw (P := pg) (A := an) (vals := [xi (m.length : Int), xi (room - (l.length : Int))]) (H := H) (op := .binOp .gtr 3 (.tmp 0) (.tmp 1) 3) (ty := 0) (r := xb (decide (((m.length : Int) : Int) > (room - (l.length : Int))))) (v := xb false) (by kernel_rfl) (congrArg (fun z => xb z) (decide_eq_false (by omega)))) trivial))) (by kernel_rfl)) (by kernel_rfl) ?_
  refine Wp.condF (by kernel_rfl) ?_
  refine Wp.skip ?_
  by_cases c28 : (0 : Int) < (m.length : Int)
  ·
   rcases Bool.eq_false_or_eq_true cd10 with rfl | rfl
   ·
    obtain ⟨n29, hn29⟩ : ∃ n, n = List.length (H : Go.Lg.Heap) := ⟨_, rfl⟩
    have hlfz30 : ((l ++ m).length : Int) = ((l.length : Int) + (m.length : Int)) := by { first | rfl | omega | (simp only [List.length_nil]; omega) | (simp; done) | (simp; omega) }
    refine Wp.regionSeq [(4, .y (.one (rowC k6 d7 L8.length o9 l.length true)), H), (6, .y (.one (rowC n29 0 (l ++ m).length 0 ((l ++ m).length) false)), (H ++ [rowO NI true 0 (l ++ m)])), (9, .tup [], (List.set (α := O) (H ++ [rowO NI true 0 (l ++ m)]) q (.obj [vi room, rowC n29 0 (l ++ m).length 0 ((l ++ m).length) false])))] [] (List.set (α := O) (H ++ [rowO NI true 0 (l ++ m)]) q (.obj [vi room, rowC n29 0 (l ++ m).length 0 ((l ++ m).length) false]))
      (cast (And.intro (ob_load_ptr (P := pg) (A := an) (H := H) (t := 22) (ty := 0) (id := q) (off := 1) (n := 1) (cs := [vi room, rowC k6 d7 L8.length o9 l.length true]) (cs' := [rowC k6 d7 L8.length o9 l.length true]) (v := .one (rowC k6 d7 L8.length o9 l.length true)) (On.at hs3 2 rfl) (by kernel_rfl) (by kernel_rfl) (by kernel_rfl) (by kernel_rfl)) (And.intro (or_append_cap (P := pg) (A := an) (H := H) (s := NI) (t := 22) (u := 22) (el := 3) (by_ := 8) (z := [vi 0]) (ty := 0) (pu := true) (puy := true) (id := k6) (d := d7) (o := o9) (n := l.length) (m := m.length) (l := L8) (lm := m) (y := rowC k d L.length o m.length cp) (n' := (l ++ m).length) (k := n29) (l' := (l ++ m)) hn29 (On.at hs3 3 rfl) (slCells_rowO (H := H) (s := NI) (pu := true) (capd := cp) (id := k) (d := d) (o := o) (n := m.length) (l := L) (m := m) (On.at hs3 1 rfl) (by first | rfl | omega | (simp only [List.length_nil]; omega) | (simp; done) | (simp; omega)) (hl)) (by kernel_rfl) (by kernel_rfl) (by kernel_rfl) (by kernel_rfl) (by kernel_rfl) (by kernel_rfl) (by kernel_rfl) (by first | rfl | omega | (simp only [List.length_nil]; omega) | (simp; done) | (simp; omega)) (by first | rfl | omega | (simp only [List.length_nil]; omega) | (simp; done) | (simp; omega)) (by first | rfl | omega | (simp only [List.length_nil]; omega) | (simp; done) | (simp; omega)) (by omega) (by omega) (congrArg (fun z => z ++ _) (hl13)) (by first | (simp only [List.length_append]; done) | (simp only [List.length_append]; first | omega | (simp; done) | (simp; omega)))) (And.intro (ob_store_ptr (P := pg) (A := an) (H := (H ++ [rowO NI true 0 (l ++ m)])) (t := 22) (ty := 0) (id := q) (off := 1) (cs := [vi room, rowC k6 d7 L8.length o9 l.length true]) (cs' := [vi room, rowC n29 0 (l ++ m).length 0 ((l ++ m).length) false]) (v := .one (rowC n29 0 (l ++ m).length 0 ((l ++ m).length) false)) (On.at (On.new' hn29 (rowO NI true 0 (l ++ m)) hs3) 2 rfl) (by kernel_rfl) (by kernel_rfl) (by kernel_rfl)) trivial))) (by kernel_rfl)) (by kernel_rfl) ?_
    refine Wp.gen (cs := [R, pts k (rowO NI true d L), pts q (.obj [vi room, rowC n29 0 (l ++ m).length 0 ((l ++ m).length) false]), pts k6 (rowO NI true d7 L8), pts n29 (rowO NI true 0 (l ++ m))]) (On.put (.obj [vi room, rowC n29 0 (l ++ m).length 0 ((l ++ m).length) false]) (On.new' hn29 (rowO NI true 0 (l ++ m)) hs3) 2 rfl) ?_
    intro H32 hs33
    refine Wp.regionSeq [] [(4, xi 0)] H32
      (cast trivial (by kernel_rfl)) (by kernel_rfl) ?_
    refine Wp.ret ?_
    refine ⟨Or.inr rfl, [.one (vi 0)], (by kernel_rfl), ?_⟩
    have hs34 : On [R, pts k (rowO NI true d L), pts k6 (rowO NI true d7 L8), ringP NI q room (l ++ m)] H32 := On.shut (cs := [R, pts k (rowO NI true d L), pts q (.obj [vi room, rowC n29 0 (l ++ m).length 0 ((l ++ m).length) false]), pts k6 (rowO NI true d7 L8), pts n29 (rowO NI true 0 (l ++ m))]) [2, 4] [0, 1, 3] rfl (fun _ x => ring_row ⟨by omega, by omega, by first | rfl | omega | (simp only [List.length_nil]; omega) | (simp; done) | (simp; omega)⟩ (by first | rfl | omega | (simp only [List.length_nil]; omega) | (simp; done) | (simp; omega)) (by first | rfl | omega | (simp only [List.length_nil]; omega) | (simp; done) | (simp; omega)) (fun _ => by first | rfl | omega | (simp only [List.length_nil]; omega) | (simp; done) | (simp; omega)) ((dt0 rfl (Nat.le_refl _)).trans (show (l ++ m) = l ++ m from rfl)) x) hs33
    exact ⟨rfl, (On.pick [0, 3, 1] [2] rfl hs34)⟩
   ·
    have hc12z := hc12 rfl
    have hlfz35 : ((l ++ m).length : Int) = ((l.length : Int) + (m.length : Int)) := by { first | rfl | omega | (simp only [List.length_nil]; omega) | (simp; done) | (simp; omega) }
    refine Wp.regionSeq [(4, .y (.one (rowC k6 d7 L8.length o9 l.length false)), H), (6, .y (.one (rowC k6 (d7 + o9) (l ++ m).length 0 ((l ++ m).length) false)), (List.set (α := O) H k6 (rowO NI true (d7 + o9) (l ++ m)))), (9, .tup [], (List.set (α := O) (List.set (α := O) H k6 (rowO NI true (d7 + o9) (l ++ m))) q (.obj [vi room, rowC k6 (d7 + o9) (l ++ m).length 0 ((l ++ m).length) false])))] [] (List.set (α := O) (List.set (α := O) H k6 (rowO NI true (d7 + o9) (l ++ m))) q (.obj [vi room, rowC k6 (d7 + o9) (l ++ m).length 0 ((l ++ m).length) false]))
      (cast (And.intro (ob_load_ptr (P := pg) (A := an) (H := H) (t := 22) (ty := 0) (id := q) (off := 1) (n := 1) (cs := [vi room, rowC k6 d7 L8.length o9 l.length false]) (cs' := [rowC k6 d7 L8.length o9 l.length false]) (v := .one (rowC k6 d7 L8.length o9 l.length false)) (On.at hs3 2 rfl) (by kernel_rfl) (by kernel_rfl) (by kernel_rfl) (by kernel_rfl)) (And.intro (or_append (P := pg) (A := an) (H := H) (s := NI) (t := 22) (u := 22) (el := 3) (by_ := 8) (z := [vi 0]) (ty := 0) (pu := true) (puy := true) (id := k6) (d := d7) (o := o9) (n := l.length) (m := m.length) (l := L8) (lm := m) (y := rowC k d L.length o m.length cp) (d' := (d7 + o9)) (l' := (l ++ m)) (n' := (l ++ m).length) (On.at hs3 3 rfl) (slCells_rowO (H := H) (s := NI) (pu := true) (capd := cp) (id := k) (d := d) (o := o) (n := m.length) (l := L) (m := m) (On.at hs3 1 rfl) (by first | rfl | omega | (simp only [List.length_nil]; omega) | (simp; done) | (simp; omega)) (hl)) (by kernel_rfl) (by kernel_rfl) (by kernel_rfl) (by kernel_rfl) (by kernel_rfl) (by kernel_rfl) (by kernel_rfl) (by first | rfl | omega | (simp only [List.length_nil]; omega) | (simp; done) | (simp; omega)) (by first | rfl | omega | (simp only [List.length_nil]; omega) | (simp; done) | (simp; omega)) (by first | rfl | omega | (simp only [List.length_nil]; omega) | (simp; done) | (simp; omega)) (by omega) (by omega) (by omega) (congrArg (fun z => z ++ m) (show L8.drop o9 = l from (List.take_of_length_le (by rw [List.length_drop]; omega)).symm.trans (hl13))) (by first | (simp only [List.length_append]; done) | (simp only [List.length_append]; first | omega | (simp; done) | (simp; omega)))) (And.intro (ob_store_ptr (P := pg) (A := an) (H := (List.set (α := O) H k6 (rowO NI true (d7 + o9) (l ++ m)))) (t := 22) (ty := 0) (id := q) (off := 1) (cs := [vi room, rowC k6 d7 L8.length o9 l.length false]) (cs' := [vi room, rowC k6 (d7 + o9) (l ++ m).length 0 ((l ++ m).length) false]) (v := .one (rowC k6 (d7 + o9) (l ++ m).length 0 ((l ++ m).length) false)) (On.at (On.put (rowO NI true (d7 + o9) (l ++ m)) hs3 3 rfl) 2 rfl) (by kernel_rfl) (by kernel_rfl) (by kernel_rfl)) trivial))) (by kernel_rfl)) (by kernel_rfl) ?_
    refine Wp.gen (cs := [R, pts k (rowO NI true d L), pts q (.obj [vi room, rowC k6 (d7 + o9) (l ++ m).length 0 ((l ++ m).length) false]), pts k6 (rowO NI true (d7 + o9) (l ++ m))]) (On.put (.obj [vi room, rowC k6 (d7 + o9) (l ++ m).length 0 ((l ++ m).length) false]) (On.put (rowO NI true (d7 + o9) (l ++ m)) hs3 3 rfl) 2 rfl) ?_
    intro H37 hs38
    refine Wp.regionSeq [] [(4, xi 0)] H37
      (cast trivial (by kernel_rfl)) (by kernel_rfl) ?_
    refine Wp.ret ?_
    refine ⟨Or.inr rfl, [.one (vi 0)], (by kernel_rfl), ?_⟩
    have hs39 : On [R, pts k (rowO NI true d L), ringP NI q room (l ++ m)] H37 := On.shut (cs := [R, pts k (rowO NI true d L), pts q (.obj [vi room, rowC k6 (d7 + o9) (l ++ m).length 0 ((l ++ m).length) false]), pts k6 (rowO NI true (d7 + o9) (l ++ m))]) [2, 3] [0, 1] rfl (fun _ x => ring_row ⟨by omega, by omega, by first | rfl | omega | (simp only [List.length_nil]; omega) | (simp; done) | (simp; omega)⟩ (by first | rfl | omega | (simp only [List.length_nil]; omega) | (simp; done) | (simp; omega)) (by first | rfl | omega | (simp only [List.length_nil]; omega) | (simp; done) | (simp; omega)) (fun _ => by first | rfl | omega | (simp only [List.length_nil]; omega) | (simp; done) | (simp; omega)) ((dt0 rfl (Nat.le_refl _)).trans (show (l ++ m) = l ++ m from rfl)) x) hs38
    exact ⟨rfl, (On.pick [0, 2, 1] [] rfl hs39)⟩
  ·
   refine Wp.regionSeq [(4, .y (.one (rowC k6 d7 L8.length o9 l.length cd10)), H), (6, .y (.one (rowC k6 d7 L8.length o9 l.length cd10)), H), (9, .tup [], (List.set (α := O) H q (.obj [vi room, rowC k6 d7 L8.length o9 l.length cd10])))] [] (List.set (α := O) H q (.obj [vi room, rowC k6 d7 L8.length o9 l.length cd10]))
     (cast (And.intro (ob_load_ptr (P := pg) (A := an) (H := H) (t := 22) (ty := 0) (id := q) (off := 1) (n := 1) (cs := [vi room, rowC k6 d7 L8.length o9 l.length cd10]) (cs' := [rowC k6 d7 L8.length o9 l.length cd10]) (v := .one (rowC k6 d7 L8.length o9 l.length cd10)) (On.at hs3 2 rfl) (by kernel_rfl) (by kernel_rfl) (by kernel_rfl) (by kernel_rfl)) (And.intro (ob_append_none (P := pg) (A := an) (H := H) (t := 22) (u := 22) (el := 3) (by_ := 8) (z := [vi 0]) (ty := 0) (sz := 1) (c := rowC k6 d7 L8.length o9 l.length cd10) (y := rowC k d L.length o m.length cp) (cs := l.flatMap (enc NI)) (n := l.length) (pu := true) (cs' := m.flatMap (enc NI)) (puy := true) (slCells_rowO (H := H) (s := NI) (pu := true) (capd := cd10) (id := k6) (d := d7) (o := o9) (n := l.length) (l := L8) (m := l) (On.at hs3 3 rfl) (by first | rfl | omega | (simp only [List.length_nil]; omega) | (simp; done) | (simp; omega)) (hl13)) (((slCells_rowO (H := H) (s := NI) (pu := true) (capd := cp) (id := k) (d := d) (o := o) (n := m.length) (l := L) (m := m) (On.at hs3 1 rfl) (by first | rfl | omega | (simp only [List.length_nil]; omega) | (simp; done) | (simp; omega)) (hl))).trans (by rw [show m.length = 0 from by first | rfl | omega | (simp only [List.length_nil]; omega) | (simp; done) | (simp; omega)])) (by kernel_rfl) (by kernel_rfl) (by kernel_rfl) (by kernel_rfl) (by kernel_rfl) (by kernel_rfl)) (And.intro (ob_store_ptr (P := pg) (A := an) (H := H) (t := 22) (ty := 0) (id := q) (off := 1) (cs := [vi room, rowC k6 d7 L8.length o9 l.length cd10]) (cs' := [vi room, rowC k6 d7 L8.length o9 l.length cd10]) (v := .one (rowC k6 d7 L8.length o9 l.length cd10)) (On.at hs3 2 rfl) (by kernel_rfl) (by kernel_rfl) (by kernel_rfl)) trivial))) (by kernel_rfl)) (by kernel_rfl) ?_
   refine Wp.gen (cs := [R, pts k (rowO NI true d L), pts q (.obj [vi room, rowC k6 d7 L8.length o9 l.length cd10]), pts k6 (rowO NI true d7 L8)]) (On.put (.obj [vi room, rowC k6 d7 L8.length o9 l.length cd10]) hs3 2 rfl) ?_
   intro H40 hs41
   refine Wp.regionSeq [] [(4, xi 0)] H40
     (cast trivial (by kernel_rfl)) (by kernel_rfl) ?_
   refine Wp.ret ?_
   refine ⟨Or.inr rfl, [.one (vi 0)], (by kernel_rfl), ?_⟩
   have hs42 : On [R, pts k (rowO NI true d L), ringP NI q room (l ++ m)] H40 := On.shut (cs := [R, pts k (rowO NI true d L), pts q (.obj [vi room, rowC k6 d7 L8.length o9 l.length cd10]), pts k6 (rowO NI true d7 L8)]) [2, 3] [0, 1] rfl (fun _ x => ring_row ⟨by omega, by omega, by first | rfl | omega | (simp only [List.length_nil]; omega) | (simp; done) | (simp; omega)⟩ (by first | rfl | omega | (simp only [List.length_nil]; omega) | (simp; done) | (simp; omega)) (by first | rfl | omega | (simp only [List.length_nil]; omega) | (simp; done) | (simp; omega)) (fun h => by have := hc12 h; first | rfl | omega | (simp only [List.length_nil]; omega) | (simp; done) | (simp; omega)) ((hl13).trans (by rw [show m = [] from List.eq_nil_of_length_eq_zero (by omega), List.append_nil])) x) hs41
   exact ⟨rfl, (On.pick [0, 2, 1] [] rfl hs42)⟩
theorem push_full (R : HP) (H : Go.Lg.Heap) (q : Nat) (room : Int) (l : List Int) (x : Int) (hs : On [R, ringP NI q room l] H) (h1 : room ≤ l.length) : ∃ rs H', Runs pg an 11 [.one (.ptr q 0), .one (vi x)] H rs H' ∧ rs = [.one (vi 2)] ∧ On [R, ringP NI q room l] H' := by
 refine Runs.of (fn := Try.f11) Try.func11 rfl (by kernel_rfl) [(0, .y (.one (.ptr q 0))), (1, xi x)] (by kernel_rfl) ?_
 refine Wp.regionSeq [] [(0, .y (.one (.ptr q 0))), (1, xi x)] H
   (cast trivial (by kernel_rfl)) (by kernel_rfl) ?_
 have hlfz1 : (([x] : List Int).length : Int) = 1 := by { first | rfl | omega | (simp only [List.length_nil]; omega) | (simp; done) | (simp; omega) }
 obtain ⟨_, H3, hr4, rfl, hs5⟩ := join_full_s _ (H : Go.Lg.Heap) (On.call [1] [0] rfl hs) (q := q) (room := room) (l := l) (b := false) (nil := false) (cp := true) (m := ([x] : List Int)) (by first | rfl | omega | (simp only [List.length_nil]; omega) | (simp; done) | (simp; omega))
 have hs5 : On [R, ringP NI q room l] H3 := On.flat hs5
 refine Wp.regionSeq [(3, xi 2, H3)] [(4, xi 2)] H3
   (cast (And.intro (ob_call (P := pg) (A := an) (H := H) (g := 19) (vals := [.y (.one (.ptr q 0)), .y (.one (.sl false false true [vi x] 1))]) (xs0 := [.one (.ptr q 0), .one (.sl false false true [vi x] 1)]) (res := [.one (vi 2)]) (ats := #[]) (ty := 0) (v := xi 2) (H' := H3) [.tmp 0, .tmp 1] (by kernel_rfl) (by kernel_rfl) hr4 (by kernel_rfl)) trivial) (by kernel_rfl)) (by kernel_rfl) ?_
 refine Wp.gen (cs := [R, ringP NI q room l]) hs5 ?_
 intro H6 hs7
 refine Wp.ret ?_
 refine ⟨Or.inr rfl, [.one (vi 2)], (by kernel_rfl), ?_⟩
 exact ⟨rfl, (On.pick [0, 1] [] rfl hs7)⟩
theorem push_ok (R : HP) (H : Go.Lg.Heap) (q : Nat) (room : Int) (l : List Int) (x : Int) (hs : On [R, ringP NI q room l] H) (h1 : (l.length : Int) < room) : ∃ rs H', Runs pg an 11 [.one (.ptr q 0), .one (vi x)] H rs H' ∧ rs = [.one (vi 0)] ∧ On [R, ringP NI q room (l ++ [x])] H' := by
 refine Runs.of (fn := Try.f11) Try.func11 rfl (by kernel_rfl) [(0, .y (.one (.ptr q 0))), (1, xi x)] (by kernel_rfl) ?_
 refine Wp.regionSeq [] [(0, .y (.one (.ptr q 0))), (1, xi x)] H
   (cast trivial (by kernel_rfl)) (by kernel_rfl) ?_
 have hlfz1 : (([x] : List Int).length : Int) = 1 := by { first | rfl | omega | (simp only [List.length_nil]; omega) | (simp; done) | (simp; omega) }
 have hlfz3 : ((l ++ ([x] : List Int)).length : Int) = ((l.length : Int) + 1) := by { first | rfl | omega | (simp only [List.length_nil]; omega) | (simp; done) | (simp; omega) }
 obtain ⟨_, H6, hr7, rfl, hs8⟩ := join_ok_s _ (H : Go.Lg.Heap) (On.call [1] [0] rfl hs) (q := q) (room := room) (l := l) (b := false) (nil := false) (cp := true) (m := ([x] : List Int)) (by first | rfl | omega | (simp only [List.length_nil]; omega) | (simp; done) | (simp; omega))
 have hs8 : On [R, ringP NI q room (l ++ ([x] : List Int))] H6 := On.flat hs8
 refine Wp.regionSeq [(3, xi 0, H6)] [(4, xi 0)] H6
   (cast (And.intro (ob_call (P := pg) (A := an) (H := H) (g := 19) (vals := [.y (.one (.ptr q 0)), .y (.one (.sl false false true [vi x] 1))]) (xs0 := [.one (.ptr q 0), .one (.sl false false true [vi x] 1)]) (res := [.one (vi 0)]) (ats := #[]) (ty := 0) (v := xi 0) (H' := H6) [.tmp 0, .tmp 1] (by kernel_rfl) (by kernel_rfl) hr7 (by kernel_rfl)) trivial) (by kernel_rfl)) (by kernel_rfl) ?_
 refine Wp.gen (cs := [R, ringP NI q room (l ++ ([x] : List Int))]) hs8 ?_
 intro H9 hs10
 refine Wp.ret ?_
 refine ⟨Or.inr rfl, [.one (vi 0)], (by kernel_rfl), ?_⟩
 exact ⟨rfl, (On.pick [0, 1] [] rfl hs10)⟩
end Go.Proofs.Ytpoaaggjgmdpdaa
