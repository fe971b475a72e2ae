/-
  Core: the functions of a ring. (Printed by sx/r18.py.)
-/
import Derived.Test.YtjdnhbnpdbpgbaaR18A
namespace Go.Proofs.Ytjdnhbnpdbpgbaa
open Go.Lg
set_option linter.unusedVariables false
set_option maxRecDepth 100000
set_option maxHeartbeats 8000000
set_option linter.unusedSimpArgs false
theorem own_row (R : HP) (H : Go.Lg.Heap) (k d o : Nat) (capd : Bool) (L l : List EN.T) (hs : On [R, pts k (rowO EN true d L)] H) (ho : o + l.length ≤ L.length) (hl : (L.drop o).take l.length = l) (hm : (l.length : Int) ≤ 65536) : ∃ rs H', Runs pg an 59 [.one (rowC k d L.length o l.length capd)] H rs H' ∧ ∃ k', rs = [.one (rowC k' 0 l.length 0 l.length true)] ∧ On [R, pts k (rowO EN true d L), pts k' (rowO EN true 0 l)] H' := by
 refine Runs.of (fn := Try.f59) Try.func59 rfl (by kernel_rfl) [(0, .y (.one (rowC k d L.length o l.length capd)))] (by kernel_rfl) ?_
 refine rSq [] [(0, .y (.one (rowC k d L.length o l.length capd)))] H
   (cast trivial (by kernel_rfl)) (by kernel_rfl) ?_
 obtain ⟨n1, hn1⟩ : ∃ n, n = List.length (H : Go.Lg.Heap) := ⟨_, rfl⟩
 obtain ⟨zs2, hzs2, hlzs2⟩ : ∃ zs : List EN.T, zs = List.replicate ((l.length : Int) : Int).toNat (((0, (0, ())), (false, ()))) ∧ (zs.length : Int) = (l.length : Int) := ⟨_, rfl, by first | (simp; done) | (simp; omega) | omega⟩
 refine rSq [(1, xi (l.length : Int), H), (2, .y (.one (rowC n1 0 zs2.length 0 zs2.length false)), (H ++ [rowO EN true 0 zs2]))] [(0, .y (.one (rowC k d L.length o l.length capd))), (3, .y (.one (rowC n1 0 zs2.length 0 zs2.length false)))] (H ++ [rowO EN true 0 zs2])
   (cast (Jai (Jj (H := H) (s := EN) (t := 23) (ty := 0) (pu := true) (capd := capd) (id := k) (d := d) (o := o) (n := l.length) (l := L) (e := (l.length : Int)) (On.at hs 1 rfl) (by kernel_rfl) (by first | rfl | omega | (simp; done) | (simp; omega))) (Jai (Ja1 (H := H) (s := EN) (t := 23) (el := 40) (ty := 0) (by_ := 24) (k := n1) (n' := zs2.length) (pu := true) (z := ((0, (0, ())), (false, ()))) (zs := zs2) (n := (l.length : Int)) (c := (l.length : Int)) hn1 (by kernel_rfl) hzs2 (by kernel_rfl) (by kernel_rfl) (by kernel_rfl) (by kernel_rfl) (by kernel_rfl) (by omega) (by omega) (by omega) (by omega) (by omega)) trivial)) (by kernel_rfl)) (by kernel_rfl) ?_
 refine Wp.gen (cs := [R, pts k (rowO EN true d L), pts n1 (rowO EN true 0 zs2)]) (On.new' hn1 (rowO EN true 0 zs2) hs) ?_
 intro H3 hs4
 refine rSq [(2, xi (l.length : Int), (List.set (α := O) H3 n1 (rowO EN true 0 l)))] [(0, .y (.one (rowC k d L.length o l.length capd))), (3, .y (.one (rowC n1 0 zs2.length 0 zs2.length false)))] (List.set (α := O) H3 n1 (rowO EN true 0 l))
   (cast (Jai (Jb1 (H := H3) (s := EN) (t := 23) (u := 23) (el := 40) (ty := 0) (pu := true) (puy := true) (capd := false) (id := n1) (n := l.length) (d := 0) (nn := zs2.length) (l := zs2) (lm := l) (y := rowC k d L.length o l.length capd) (m := (l.length : Int)) rfl (On.at hs4 2 rfl) (slCells_rowO (H := H3) (s := EN) (pu := true) (capd := capd) (id := k) (d := d) (o := o) (n := l.length) (l := L) (m := l) (On.at hs4 1 rfl) (by first | rfl | omega | (simp; done) | (simp; omega)) (hl)) (by kernel_rfl) (by kernel_rfl) (by kernel_rfl) (by first | rfl | omega | (simp; done) | (simp; omega)) (by first | rfl | omega | (simp; done) | (simp; omega)) (by first | rfl | omega | (simp; done) | (simp; omega)) (by first | rfl | omega | (simp; done) | (simp; omega))) trivial) (by kernel_rfl)) (by kernel_rfl) ?_
 rw [show zs2.length = l.length from by first | rfl | omega | (simp; done) | (simp; omega)]
 refine Wp.gen (cs := [R, pts k (rowO EN true d L), pts n1 (rowO EN true 0 l)]) (On.put (rowO EN true 0 l) hs4 2 rfl) ?_
 intro H5 hs6
 refine rSq [(2, xi (l.length : Int), H5), (4, xi (l.length : Int), H5), (5, .y (.one (rowC n1 0 l.length 0 l.length true)), H5)] [(2, .y (.one (rowC n1 0 l.length 0 l.length true)))] H5
   (cast (Jai (Jj (H := H5) (s := EN) (t := 23) (ty := 0) (pu := true) (capd := capd) (id := k) (d := d) (o := o) (n := l.length) (l := L) (e := (l.length : Int)) (On.at hs6 1 rfl) (by kernel_rfl) (by first | rfl | omega | (simp; done) | (simp; omega))) (Jai (Jj (H := H5) (s := EN) (t := 23) (ty := 0) (pu := true) (capd := capd) (id := k) (d := d) (o := o) (n := l.length) (l := L) (e := (l.length : Int)) (On.at hs6 1 rfl) (by kernel_rfl) (by first | rfl | omega | (simp; done) | (simp; omega))) (Jai (Jp (H := H5) (s := EN) (t := 23) (el := 40) (ty := 0) (pu := true) (id := n1) (d := 0) (o := 0) (n := l.length) (l := l) (capd := false) (n' := l.length) (h := (l.length : Int)) (On.at hs6 2 rfl) (by kernel_rfl) (by kernel_rfl) (by omega) (by first | rfl | omega | (simp; done) | (simp; omega)) (by first | rfl | omega | (simp; done) | (simp; omega)) (by first | rfl | omega | (simp; done) | (simp; omega))) trivial))) (by kernel_rfl)) (by kernel_rfl) ?_
 refine Wp.ret ?_
 refine ⟨Or.inr rfl, [.one (rowC n1 0 l.length 0 l.length true)], (by kernel_rfl), ?_⟩
 exact ⟨n1, rfl, (On.pick [0, 1, 2] [] (by kernel_rfl) hs6)⟩
theorem own_nil (R : HP) (H : Go.Lg.Heap) (hs : On [R] H) : ∃ rs H', Runs pg an 59 [.one (.sl false true true [] 0)] H rs H' ∧ ∃ k', rs = [.one (rowC k' 0 ([] : List EN.T).length 0 ([] : List EN.T).length true)] ∧ On [R, pts k' (rowO EN true 0 ([] : List EN.T))] H' := by
 refine Runs.of (fn := Try.f59) Try.func59 rfl (by kernel_rfl) [(0, .y (.one (.sl false true true [] 0)))] (by kernel_rfl) ?_
 refine rSq [] [(0, .y (.one (.sl false true true [] 0)))] H
   (cast trivial (by kernel_rfl)) (by kernel_rfl) ?_
 obtain ⟨n1, hn1⟩ : ∃ n, n = List.length (H : Go.Lg.Heap) := ⟨_, rfl⟩
 obtain ⟨zs2, hzs2, hlzs2⟩ : ∃ zs : List EN.T, zs = List.replicate (0 : Int).toNat (((0, (0, ())), (false, ()))) ∧ (zs.length : Int) = 0 := ⟨_, rfl, by first | (simp; done) | (simp; omega) | omega⟩
 refine rSq [(2, .y (.one (rowC n1 0 zs2.length 0 zs2.length false)), (H ++ [rowO EN true 0 zs2]))] [(0, .y (.one (.sl false true true [] 0))), (3, .y (.one (rowC n1 0 zs2.length 0 zs2.length false)))] (H ++ [rowO EN true 0 zs2])
   (cast (Jai (Ja1 (H := H) (s := EN) (t := 23) (el := 40) (ty := 0) (by_ := 24) (k := n1) (n' := zs2.length) (pu := true) (z := ((0, (0, ())), (false, ()))) (zs := zs2) (n := 0) (c := 0) hn1 (by kernel_rfl) hzs2 (by kernel_rfl) (by kernel_rfl) (by kernel_rfl) (by kernel_rfl) (by kernel_rfl) (by omega) (by omega) (by omega) (by omega) (by omega)) trivial) (by kernel_rfl)) (by kernel_rfl) ?_
 refine Wp.gen (cs := [R, pts n1 (rowO EN true 0 zs2)]) (On.new' hn1 (rowO EN true 0 zs2) hs) ?_
 intro H3 hs4
 refine rSq [(2, xi 0, (List.set (α := O) H3 n1 (rowO EN true 0 ([] : List EN.T))))] [(0, .y (.one (.sl false true true [] 0))), (3, .y (.one (rowC n1 0 zs2.length 0 zs2.length false)))] (List.set (α := O) H3 n1 (rowO EN true 0 ([] : List EN.T)))
   (cast (Jai (Jb1 (H := H3) (s := EN) (t := 23) (u := 23) (el := 40) (ty := 0) (pu := true) (puy := true) (capd := false) (id := n1) (n := 0) (d := 0) (nn := zs2.length) (l := zs2) (lm := ([] : List EN.T)) (y := .sl false true true [] 0) (m := 0) rfl (On.at hs4 1 rfl) (slCells_slO (H := H3) (s := EN) (b := false) (nil := true) (capd := true) (l := ([] : List EN.T)) (n := 0) (by first | rfl | omega | (simp only [List.length_nil]; omega) | (simp; done) | (simp; omega))) (by kernel_rfl) (by kernel_rfl) (by kernel_rfl) (by first | rfl | omega | (simp only [List.length_nil]; omega) | (simp; done) | (simp; omega)) (by first | rfl | omega | (simp only [List.length_nil]; omega) | (simp; done) | (simp; omega)) (by first | rfl | omega | (simp only [List.length_nil]; omega) | (simp; done) | (simp; omega)) (by first | rfl | omega | (simp only [List.length_nil]; omega) | (simp; done) | (simp; omega))) trivial) (by kernel_rfl)) (by kernel_rfl) ?_
 rw [show zs2.length = ([] : List EN.T).length from by first | rfl | omega | (simp only [List.length_nil]; omega) | (simp; done) | (simp; omega)]
 refine Wp.gen (cs := [R, pts n1 (rowO EN true 0 ([] : List EN.T))]) (On.put (rowO EN true 0 ([] : List EN.T)) hs4 1 rfl) ?_
 intro H5 hs6
 refine rSq [(5, .y (.one (rowC n1 0 ([] : List EN.T).length 0 (([] : List EN.T).length) true)), H5)] [(2, .y (.one (rowC n1 0 ([] : List EN.T).length 0 (([] : List EN.T).length) true)))] H5
   (cast (Jai (Jp (H := H5) (s := EN) (t := 23) (el := 40) (ty := 0) (pu := true) (id := n1) (d := 0) (o := 0) (n := (([] : List EN.T).length)) (l := ([] : List EN.T)) (capd := false) (n' := (([] : List EN.T).length)) (h := 0) (On.at hs6 1 rfl) (by kernel_rfl) (by kernel_rfl) (by omega) (by first | rfl | omega | (simp only [List.length_nil]; omega) | (simp; done) | (simp; omega)) (by first | rfl | omega | (simp only [List.length_nil]; omega) | (simp; done) | (simp; omega)) (by first | rfl | omega | (simp only [List.length_nil]; omega) | (simp; done) | (simp; omega))) trivial) (by kernel_rfl)) (by kernel_rfl) ?_
 refine Wp.ret ?_
 refine ⟨Or.inr rfl, [.one (rowC n1 0 ([] : List EN.T).length 0 (([] : List EN.T).length) true)], (by kernel_rfl), ?_⟩
 exact ⟨n1, rfl, (On.pick [0, 1] [] (by kernel_rfl) hs6)⟩
theorem new_ok (R : HP) (H : Go.Lg.Heap) (room : Int) (hs : On [R] H) (h1 : 1 ≤ room) (h2 : room ≤ 65536) : ∃ rs H', Runs pg an 51 [.one (vi room)] H rs H' ∧ ∃ q, rs = [.one (.ptr q 0), .one (vi 0)] ∧ On [R, ringP EN q room ([] : List EN.T)] H' := by
 refine Runs.of (fn := Try.f51) Try.func51 rfl (by kernel_rfl) [(0, xi room)] (by kernel_rfl) ?_
 refine rSq [] [(0, xi room)] H
   (cast trivial (by kernel_rfl)) (by kernel_rfl) ?_
 refine Wp.seq ?_
 refine rSq [(1, xb false, H), (4, xb false, H)] [(0, xi room), (9, xb false)] H
   (cast (Jai (Ja (vals := [xi room, xi 1]) (H := H) (op := .binOp .lss 3 (.tmp 0) (.tmp 1) 3) (ty := 0) (r := xb (decide ((room : Int) < 1))) (v := xb false) (by kernel_rfl) (congrArg (fun z => xb z) (decide_eq_false (by omega)))) (Jai (Ja (vals := [xi room, xi 65536]) (H := H) (op := .binOp .gtr 3 (.tmp 0) (.tmp 1) 3) (ty := 0) (r := xb (decide ((room : Int) > 65536))) (v := xb false) (by kernel_rfl) (congrArg (fun z => xb z) (decide_eq_false (by omega)))) trivial)) (by kernel_rfl)) (by kernel_rfl) ?_
 refine Wp.condF (by kernel_rfl) ?_
 refine Wp.skip ?_
 obtain ⟨n1, hn1⟩ : ∃ n, n = List.length (H : Go.Lg.Heap) := ⟨_, rfl⟩
 refine rSq [(2, .y (.one (.ptr n1 0)), (H ++ [.obj [vi room, .sl false true true [] 0]]))] [(2, .y (.one (.ptr n1 0))), (3, xi 0)] (H ++ [.obj [vi room, .sl false true true [] 0]])
   (cast (Jai (Jh (H := H) (t := 105) (ty := 0) (n := n1) (v := .agg [vi room, .sl false true true [] 0]) (cs := [vi room, .sl false true true [] 0]) hn1 (by kernel_rfl) (by kernel_rfl) (by kernel_rfl)) trivial) (by kernel_rfl)) (by kernel_rfl) ?_
 refine Wp.gen (cs := [R, pts n1 (.obj [vi room, .sl false true true [] 0])]) (On.new' hn1 (.obj [vi room, .sl false true true [] 0]) hs) ?_
 intro H2 hs3
 refine Wp.ret ?_
 refine ⟨Or.inr rfl, [.one (.ptr n1 0), .one (vi 0)], (by kernel_rfl), ?_⟩
 have hs4 : On [R, ringP EN n1 room ([] : List EN.T)] H2 := On.shut (cs := [R, pts n1 (.obj [vi room, .sl false true true [] 0])]) [1] [0] (by kernel_rfl) (fun _ x => ring_nil' (rfl) ⟨by omega, by omega⟩ x) hs3
 exact ⟨n1, rfl, (On.pick [0, 1] [] (by kernel_rfl) hs4)⟩
theorem len_ok (R : HP) (H : Go.Lg.Heap) (q : Nat) (room : Int) (l : List EN.T) (hs : On [R, ringP EN q room l] H) : ∃ rs H', Runs pg an 32 [.one (.ptr q 0)] H rs H' ∧ rs = [.one (vi (l.length))] ∧ On [R, ringP EN q room l] H' := by
 obtain ⟨⟨hb3a, hb3b, hb3c⟩, ⟨hl4, hs1⟩ | ⟨k5, d6, L7, o8, cd9, ho10, hc11, hl12, hs2⟩⟩ := ring_open hs 1 rfl
 ·
  have hl4n : (l.length : Int) = 0 := by rw [hl4]; rfl
  refine Runs.of (fn := Try.f32) Try.func32 rfl (by kernel_rfl) [(0, .y (.one (.ptr q 0)))] (by kernel_rfl) ?_
  refine rSq [] [(0, .y (.one (.ptr q 0)))] H
    (cast trivial (by kernel_rfl)) (by kernel_rfl) ?_
  refine Wp.seq ?_
  have hcall13 : Runs pg an 53 [.one (.ptr q 0)] H [.one (vb true)] H := by
   refine runs_of ?_
   refine Runs.of (fn := Try.f53) Try.func53 rfl (by kernel_rfl) [(0, .y (.one (.ptr q 0)))] (by kernel_rfl) ?_
   refine rSq [] [(0, .y (.one (.ptr q 0)))] H
     (cast trivial (by kernel_rfl)) (by kernel_rfl) ?_
   refine rSq [(6, xi room, H), (7, xb true, H)] [(2, xb true)] H
     (cast (Jai (Jb (H := H) (t := 3) (ty := 0) (id := q) (off := 0) (n := 1) (cs := [vi room, .sl false true true [] 0]) (cs' := [vi room]) (v := .one (vi room)) (On.at hs1 1 rfl) (by kernel_rfl) (by kernel_rfl) (by kernel_rfl) (by kernel_rfl)) (Jai (Ja (vals := [xi room, xi 0]) (H := H) (op := .binOp .gtr 3 (.tmp 0) (.tmp 1) 3) (ty := 0) (r := xb (decide ((room : Int) > 0))) (v := xb true) (by kernel_rfl) (congrArg (fun z => xb z) (decide_eq_true (by omega)))) trivial)) (by kernel_rfl)) (by kernel_rfl) ?_
   refine Wp.ret ?_
   exact ⟨Or.inr rfl, [.one (vb true)], (by kernel_rfl), ⟨rfl, rfl⟩⟩
  refine rSq [(1, xb true, H)] [(0, .y (.one (.ptr q 0))), (5, xb false)] H
    (cast (Jai (Jc (H := H) (g := 53) (vals := [.y (.one (.ptr q 0))]) (xs0 := [.one (.ptr q 0)]) (res := [.one (vb true)]) (ats := #[]) (ty := 0) (v := xb true) (H' := H) [.tmp 0] (by kernel_rfl) (by kernel_rfl) hcall13 (by kernel_rfl)) trivial) (by kernel_rfl)) (by kernel_rfl) ?_
  refine Wp.condF (by kernel_rfl) ?_
  refine Wp.skip ?_
  refine rSq [(3, .y (.one (.sl false true true [] 0)), H)] [(2, xi 0)] H
    (cast (Jai (Jb (H := H) (t := 23) (ty := 0) (id := q) (off := 1) (n := 1) (cs := [vi room, .sl false true true [] 0]) (cs' := [.sl false true true [] 0]) (v := .one (.sl false true true [] 0)) (On.at hs1 1 rfl) (by kernel_rfl) (by kernel_rfl) (by kernel_rfl) (by kernel_rfl)) trivial) (by kernel_rfl)) (by kernel_rfl) ?_
  refine Wp.ret ?_
  refine ⟨Or.inr rfl, [.one (vi 0)], (by kernel_rfl), ?_⟩
  have hs14 : On [R, ringP EN q room l] H := On.shut (cs := [R, pts q (.obj [vi room, .sl false true true [] 0])]) [1] [0] (by kernel_rfl) (fun _ x => ring_nil' (hl4) ⟨by omega, by omega⟩ x) hs1
  exact ⟨congrArg (fun z : Int => [Y.one (vi z)]) (by omega), (On.pick [0, 1] [] (by kernel_rfl) hs14)⟩
 ·
  refine Runs.of (fn := Try.f32) Try.func32 rfl (by kernel_rfl) [(0, .y (.one (.ptr q 0)))] (by kernel_rfl) ?_
  refine rSq [] [(0, .y (.one (.ptr q 0)))] H
    (cast trivial (by kernel_rfl)) (by kernel_rfl) ?_
  refine Wp.seq ?_
  have hcall15 : Runs pg an 53 [.one (.ptr q 0)] H [.one (vb true)] H := by
   refine runs_of ?_
   refine Runs.of (fn := Try.f53) Try.func53 rfl (by kernel_rfl) [(0, .y (.one (.ptr q 0)))] (by kernel_rfl) ?_
   refine rSq [] [(0, .y (.one (.ptr q 0)))] H
     (cast trivial (by kernel_rfl)) (by kernel_rfl) ?_
   refine rSq [(6, xi room, H), (7, xb true, H)] [(2, xb true)] H
     (cast (Jai (Jb (H := H) (t := 3) (ty := 0) (id := q) (off := 0) (n := 1) (cs := [vi room, rowC k5 d6 L7.length o8 l.length cd9]) (cs' := [vi room]) (v := .one (vi room)) (On.at hs2 1 rfl) (by kernel_rfl) (by kernel_rfl) (by kernel_rfl) (by kernel_rfl)) (Jai (Ja (vals := [xi room, xi 0]) (H := H) (op := .binOp .gtr 3 (.tmp 0) (.tmp 1) 3) (ty := 0) (r := xb (decide ((room : Int) > 0))) (v := xb true) (by kernel_rfl) (congrArg (fun z => xb z) (decide_eq_true (by omega)))) trivial)) (by kernel_rfl)) (by kernel_rfl) ?_
   refine Wp.ret ?_
   exact ⟨Or.inr rfl, [.one (vb true)], (by kernel_rfl), ⟨rfl, rfl⟩⟩
  refine rSq [(1, xb true, H)] [(0, .y (.one (.ptr q 0))), (5, xb false)] H
    (cast (Jai (Jc (H := H) (g := 53) (vals := [.y (.one (.ptr q 0))]) (xs0 := [.one (.ptr q 0)]) (res := [.one (vb true)]) (ats := #[]) (ty := 0) (v := xb true) (H' := H) [.tmp 0] (by kernel_rfl) (by kernel_rfl) hcall15 (by kernel_rfl)) trivial) (by kernel_rfl)) (by kernel_rfl) ?_
  refine Wp.condF (by kernel_rfl) ?_
  refine Wp.skip ?_
  refine rSq [(3, .y (.one (rowC k5 d6 L7.length o8 l.length cd9)), H), (4, xi (l.length : Int), H)] [(2, xi (l.length : Int))] H
    (cast (Jai (Jb (H := H) (t := 23) (ty := 0) (id := q) (off := 1) (n := 1) (cs := [vi room, rowC k5 d6 L7.length o8 l.length cd9]) (cs' := [rowC k5 d6 L7.length o8 l.length cd9]) (v := .one (rowC k5 d6 L7.length o8 l.length cd9)) (On.at hs2 1 rfl) (by kernel_rfl) (by kernel_rfl) (by kernel_rfl) (by kernel_rfl)) (Jai (Jj (H := H) (s := EN) (t := 23) (ty := 0) (pu := true) (capd := cd9) (id := k5) (d := d6) (o := o8) (n := l.length) (l := L7) (e := (l.length : Int)) (On.at hs2 2 rfl) (by kernel_rfl) (by first | rfl | omega | (simp; done) | (simp; omega))) trivial)) (by kernel_rfl)) (by kernel_rfl) ?_
  refine Wp.ret ?_
  refine ⟨Or.inr rfl, [.one (vi (l.length : Int))], (by kernel_rfl), ?_⟩
  have hs16 : On [R, ringP EN q room l] H := On.shut (cs := [R, pts q (.obj [vi room, rowC k5 d6 L7.length o8 l.length cd9]), pts k5 (rowO EN true d6 L7)]) [1, 2] [0] (by kernel_rfl) (fun _ x => ring_row ⟨by omega, by omega, by first | rfl | omega | (simp; done) | (simp; omega)⟩ (by first | rfl | omega | (simp; done) | (simp; omega)) (by first | rfl | omega | (simp; done) | (simp; omega)) (fun h => by have := hc11 h; first | rfl | omega | (simp; done) | (simp; omega)) (hl12) x) hs2
  exact ⟨congrArg (fun z : Int => [Y.one (vi z)]) (by omega), (On.pick [0, 1] [] (by kernel_rfl) hs16)⟩
theorem at_ok (R : HP) (H : Go.Lg.Heap) (q : Nat) (room : Int) (l : List EN.T) (i : Int) (x : EN.T) (hs : On [R, ringP EN q room l] H) (h0 : 0 ≤ i) (h1 : i < l.length) (hx : l[i.toNat]? = some x) : ∃ rs H', Runs pg an 57 [.one (.ptr q 0), .one (vi i)] H rs H' ∧ rs = [.agg [vi x.1.1, vi x.1.2.1, vb x.2.1], .one (vi 0)] ∧ On [R, ringP EN q room l] H' := by
 obtain ⟨⟨hb3a, hb3b, hb3c⟩, ⟨hl4, hs1⟩ | ⟨k5, d6, L7, o8, cd9, ho10, hc11, hl12, hs2⟩⟩ := ring_open hs 1 rfl
 ·
  have hl4n : (l.length : Int) = 0 := by rw [hl4]; rfl
  exfalso; omega
 ·
  refine Runs.of (fn := Try.f57) Try.func57 rfl (by kernel_rfl) [(0, .y (.one (.ptr q 0))), (1, xi i)] (by kernel_rfl) ?_
  obtain ⟨n13, hn13⟩ : ∃ n, n = List.length (H : Go.Lg.Heap) := ⟨_, rfl⟩
  refine rSq [(0, .y (.one (.ptr n13 0)), (H ++ [.obj [vi 0, vi 0, vb false]]))] [(0, .y (.one (.ptr q 0))), (1, xi i), (4, .y (.one (.ptr n13 0)))] (H ++ [.obj [vi 0, vi 0, vb false]])
    (cast (Jai (Jg (H := H) (t := 40) (ty := 0) (n := n13) (cs := [vi 0, vi 0, vb false]) hn13 (by kernel_rfl)) trivial) (by kernel_rfl)) (by kernel_rfl) ?_
  refine Wp.gen (cs := [R, pts q (.obj [vi room, rowC k5 d6 L7.length o8 l.length cd9]), pts k5 (rowO EN true d6 L7), pts n13 (.obj [vi 0, vi 0, vb false])]) (On.new' hn13 (.obj [vi 0, vi 0, vb false]) hs2) ?_
  intro H14 hs15
  refine Wp.seq ?_
  have hcall16 : Runs pg an 53 [.one (.ptr q 0)] H14 [.one (vb true)] H14 := by
   refine runs_of ?_
   refine Runs.of (fn := Try.f53) Try.func53 rfl (by kernel_rfl) [(0, .y (.one (.ptr q 0)))] (by kernel_rfl) ?_
   refine rSq [] [(0, .y (.one (.ptr q 0)))] H14
     (cast trivial (by kernel_rfl)) (by kernel_rfl) ?_
   refine rSq [(6, xi room, H14), (7, xb true, H14)] [(2, xb true)] H14
     (cast (Jai (Jb (H := H14) (t := 3) (ty := 0) (id := q) (off := 0) (n := 1) (cs := [vi room, rowC k5 d6 L7.length o8 l.length cd9]) (cs' := [vi room]) (v := .one (vi room)) (On.at hs15 1 rfl) (by kernel_rfl) (by kernel_rfl) (by kernel_rfl) (by kernel_rfl)) (Jai (Ja (vals := [xi room, xi 0]) (H := H14) (op := .binOp .gtr 3 (.tmp 0) (.tmp 1) 3) (ty := 0) (r := xb (decide ((room : Int) > 0))) (v := xb true) (by kernel_rfl) (congrArg (fun z => xb z) (decide_eq_true (by omega)))) trivial)) (by kernel_rfl)) (by kernel_rfl) ?_
   refine Wp.ret ?_
   exact ⟨Or.inr rfl, [.one (vb true)], (by kernel_rfl), ⟨rfl, rfl⟩⟩
  refine rSq [(1, xb true, H14)] [(0, .y (.one (.ptr q 0))), (1, xi i), (4, .y (.one (.ptr n13 0))), (8, xb false)] H14
    (cast (Jai (Jc (H := H14) (g := 53) (vals := [.y (.one (.ptr q 0))]) (xs0 := [.one (.ptr q 0)]) (res := [.one (vb true)]) (ats := #[]) (ty := 0) (v := xb true) (H' := H14) [.tmp 0] (by kernel_rfl) (by kernel_rfl) hcall16 (by kernel_rfl)) trivial) (by kernel_rfl)) (by kernel_rfl) ?_
  refine Wp.condF (by kernel_rfl) ?_
  refine Wp.skip ?_
  refine Wp.seq ?_
  refine rSq [(1, xb false, H14), (7, .y (.one (rowC k5 d6 L7.length o8 l.length cd9)), H14), (8, xi (l.length : Int), H14), (9, xb false, H14)] [(0, .y (.one (.ptr q 0))), (1, xi i), (4, .y (.one (.ptr n13 0))), (20, xb false)] H14
    (cast (Jai (Ja (vals := [xi i, xi 0]) (H := H14) (op := .binOp .lss 3 (.tmp 0) (.tmp 1) 3) (ty := 0) (r := xb (decide ((i : Int) < 0))) (v := xb false) (by kernel_rfl) (congrArg (fun z => xb z) (decide_eq_false (by omega)))) (Jai (Jb (H := H14) (t := 23) (ty := 0) (id := q) (off := 1) (n := 1) (cs := [vi room, rowC k5 d6 L7.length o8 l.length cd9]) (cs' := [rowC k5 d6 L7.length o8 l.length cd9]) (v := .one (rowC k5 d6 L7.length o8 l.length cd9)) (On.at hs15 1 rfl) (by kernel_rfl) (by kernel_rfl) (by kernel_rfl) (by kernel_rfl)) (Jai (Jj (H := H14) (s := EN) (t := 23) (ty := 0) (pu := true) (capd := cd9) (id := k5) (d := d6) (o := o8) (n := l.length) (l := L7) (e := (l.length : Int)) (On.at hs15 2 rfl) (by kernel_rfl) (by first | rfl | omega | (simp; done) | (simp; omega))) (Jai (Ja (vals := [xi i, xi (l.length : Int)]) (H := H14) (op := .binOp .geq 3 (.tmp 0) (.tmp 1) 3) (ty := 0) (r := xb (decide ((i : Int) ≥ (l.length : Int)))) (v := xb false) (by kernel_rfl) (congrArg (fun z => xb z) (decide_eq_false (by omega)))) trivial)))) (by kernel_rfl)) (by kernel_rfl) ?_
  refine Wp.condF (by kernel_rfl) ?_
  refine Wp.skip ?_
  obtain ⟨x17, hx17⟩ : ∃ x : EN.T, l[(i : Int).toNat]? = some x := get_of (by first | rfl | omega | (simp; done) | (simp; omega))
  refine rSq [(3, .y (.one (rowC k5 d6 L7.length o8 l.length cd9)), H14), (5, .y (.one (raC k5 d6 L7.length 3 ((((o8 : Int) + i) : Int).toNat) 0)), H14), (6, .y (.agg [vi x17.1.1, vi x17.1.2.1, vb x17.2.1]), H14), (7, .tup [], (List.set (α := O) H14 n13 (.obj [vi x17.1.1, vi x17.1.2.1, vb x17.2.1])))] [(4, .y (.one (.ptr n13 0))), (5, xi 0)] (List.set (α := O) H14 n13 (.obj [vi x17.1.1, vi x17.1.2.1, vb x17.2.1]))
    (cast (Jai (Jb (H := H14) (t := 23) (ty := 0) (id := q) (off := 1) (n := 1) (cs := [vi room, rowC k5 d6 L7.length o8 l.length cd9]) (cs' := [rowC k5 d6 L7.length o8 l.length cd9]) (v := .one (rowC k5 d6 L7.length o8 l.length cd9)) (On.at hs15 1 rfl) (by kernel_rfl) (by kernel_rfl) (by kernel_rfl) (by kernel_rfl)) (Jai (Js (H := H14) (s := EN) (t := 23) (el := 40) (ty := 0) (pu := true) (capd := cd9) (id := k5) (d := d6) (o := o8) (n := l.length) (j := ((((o8 : Int) + i) : Int).toNat)) (l := L7) (i := i) (On.at hs15 2 rfl) Try.underlying23 (by kernel_rfl) (by omega) (by first | rfl | omega | (simp; done) | (simp; omega)) (by first | rfl | omega | (simp; done) | (simp; omega)) (by first | rfl | omega | (simp; done) | (simp; omega))) (Jai (Jt (H := H14) (s := EN) (t := 40) (ty := 0) (pu := true) (id := k5) (d := d6) (j := ((((o8 : Int) + i) : Int).toNat)) (o := 0) (n := 3) (l := L7) (x := x17) (v := .agg [vi x17.1.1, vi x17.1.2.1, vb x17.2.1]) (On.at hs15 2 rfl) (by kernel_rfl) (by kernel_rfl) (of_content (hl12) hx17 (by first | rfl | omega | (simp; done) | (simp; omega))) (by kernel_rfl)) (Jai (Je (H := H14) (t := 40) (ty := 0) (id := n13) (off := 0) (cs := [vi 0, vi 0, vb false]) (cs' := [vi x17.1.1, vi x17.1.2.1, vb x17.2.1]) (v := .agg [vi x17.1.1, vi x17.1.2.1, vb x17.2.1]) (On.at hs15 3 rfl) (by kernel_rfl) (by kernel_rfl) (by kernel_rfl)) trivial)))) (by kernel_rfl)) (by kernel_rfl) ?_
  refine Wp.gen (cs := [R, pts q (.obj [vi room, rowC k5 d6 L7.length o8 l.length cd9]), pts k5 (rowO EN true d6 L7), pts n13 (.obj [vi x17.1.1, vi x17.1.2.1, vb x17.2.1])]) (On.put (.obj [vi x17.1.1, vi x17.1.2.1, vb x17.2.1]) hs15 3 rfl) ?_
  intro H18 hs19
  refine Wp.ret ?_
  refine ⟨Or.inr rfl, [.agg [vi x17.1.1, vi x17.1.2.1, vb x17.2.1], .one (vi 0)], (cast (res_cons (P := pg) (e := [(4, .y (.one (.ptr n13 0))), (5, xi 0)]) (H := H18) (res_cell (P := pg) (e := [(4, .y (.one (.ptr n13 0))), (5, xi 0)]) (H := H18) (a := 4) (t := 40) (id := n13) (off := 0) (n := 3) (cs := [vi x17.1.1, vi x17.1.2.1, vb x17.2.1]) (cs' := [vi x17.1.1, vi x17.1.2.1, vb x17.2.1]) (v := .agg [vi x17.1.1, vi x17.1.2.1, vb x17.2.1]) (by kernel_rfl) (by kernel_rfl) (On.at hs19 3 rfl) (by kernel_rfl) (by kernel_rfl) (by kernel_rfl)) (res_cons (P := pg) (e := [(4, .y (.one (.ptr n13 0))), (5, xi 0)]) (H := H18) (r := .tmp 5) (y := .one (vi 0)) (by kernel_rfl) res_nil)) (by kernel_rfl)), ?_⟩
  have hs20 : On [R, pts n13 (.obj [vi x17.1.1, vi x17.1.2.1, vb x17.2.1]), ringP EN q room l] H18 := On.shut (cs := [R, pts q (.obj [vi room, rowC k5 d6 L7.length o8 l.length cd9]), pts k5 (rowO EN true d6 L7), pts n13 (.obj [vi x17.1.1, vi x17.1.2.1, vb x17.2.1])]) [1, 2] [0, 3] (by kernel_rfl) (fun _ x => ring_row ⟨by omega, by omega, by first | rfl | omega | (simp; done) | (simp; omega)⟩ (by first | rfl | omega | (simp; done) | (simp; omega)) (by first | rfl | omega | (simp; done) | (simp; omega)) (fun h => by have := hc11 h; first | rfl | omega | (simp; done) | (simp; omega)) (hl12) x) hs19
  obtain rfl : x17 = x := Option.some.inj (hx17.symm.trans hx)
  exact ⟨rfl, (On.pick [0, 2] [1] (by kernel_rfl) hs20)⟩
theorem take_ok (R : HP) (H : Go.Lg.Heap) (q : Nat) (room : Int) (l : List EN.T) (i : Int) (x : EN.T) (l' : List EN.T) (hs : On [R, ringP EN q room l] H) (h0 : 0 ≤ i) (h1 : i < l.length) (hx : l[i.toNat]? = some x) (hl' : l.take i.toNat ++ l.drop (i + 1).toNat = l') : ∃ rs H', Runs pg an 39 [.one (.ptr q 0), .one (vi i)] H rs H' ∧ rs = [.agg [vi x.1.1, vi x.1.2.1, vb x.2.1], .one (vi 0)] ∧ On [R, ringP EN q room l'] H' := by
 have hle' : (l'.length : Int) = l.length - 1 := by rw [← hl']; simp only [List.length_append, List.length_take, List.length_drop]; omega
 refine Runs.of (fn := Try.f39) Try.func39 rfl (by kernel_rfl) [(0, .y (.one (.ptr q 0))), (1, xi i)] (by kernel_rfl) ?_
 obtain ⟨n1, hn1⟩ : ∃ n, n = List.length (H : Go.Lg.Heap) := ⟨_, rfl⟩
 refine rSq [(0, .y (.one (.ptr n1 0)), (H ++ [.obj [vi 0, vi 0, vb false]]))] [(0, .y (.one (.ptr q 0))), (1, xi i), (4, .y (.one (.ptr n1 0)))] (H ++ [.obj [vi 0, vi 0, vb false]])
   (cast (Jai (Jg (H := H) (t := 40) (ty := 0) (n := n1) (cs := [vi 0, vi 0, vb false]) hn1 (by kernel_rfl)) trivial) (by kernel_rfl)) (by kernel_rfl) ?_
 refine Wp.gen (cs := [R, ringP EN q room l, pts n1 (.obj [vi 0, vi 0, vb false])]) (On.new' hn1 (.obj [vi 0, vi 0, vb false]) hs) ?_
 intro H2 hs3
 refine Wp.seq ?_
 obtain ⟨_, H4, hr5, rfl, hs6⟩ := at_ok _ (H2 : Go.Lg.Heap) (On.call [1] [0, 2] (by kernel_rfl) hs3) (q := q) (room := room) (l := l) (i := i) (x := x) (by omega) (by first | rfl | omega | (simp; done) | (simp; omega)) hx
 have hs6 : On [R, pts n1 (.obj [vi 0, vi 0, vb false]), ringP EN q room l] H4 := On.flat hs6
 refine rSq [(2, .tup [.agg [vi x.1.1, vi x.1.2.1, vb x.2.1], .one (vi 0)], H4), (6, .tup [], (List.set (α := O) H4 n1 (.obj [vi x.1.1, vi x.1.2.1, vb x.2.1])))] [(0, .y (.one (.ptr q 0))), (1, xi i), (4, .y (.one (.ptr n1 0))), (5, xi 0)] (List.set (α := O) H4 n1 (.obj [vi x.1.1, vi x.1.2.1, vb x.2.1]))
   (cast (Jai (Jc (H := H2) (g := 57) (vals := [.y (.one (.ptr q 0)), xi i]) (xs0 := [.one (.ptr q 0), .one (vi i)]) (res := [.agg [vi x.1.1, vi x.1.2.1, vb x.2.1], .one (vi 0)]) (ats := #[]) (ty := 0) (v := .tup [.agg [vi x.1.1, vi x.1.2.1, vb x.2.1], .one (vi 0)]) (H' := H4) [.tmp 0, .tmp 1] (by kernel_rfl) (by kernel_rfl) hr5 (by kernel_rfl)) (Jai (Je (H := H4) (t := 40) (ty := 0) (id := n1) (off := 0) (cs := [vi 0, vi 0, vb false]) (cs' := [vi x.1.1, vi x.1.2.1, vb x.2.1]) (v := .agg [vi x.1.1, vi x.1.2.1, vb x.2.1]) (On.at hs6 1 rfl) (by kernel_rfl) (by kernel_rfl) (by kernel_rfl)) trivial)) (by kernel_rfl)) (by kernel_rfl) ?_
 refine Wp.gen (cs := [R, pts n1 (.obj [vi x.1.1, vi x.1.2.1, vb x.2.1]), ringP EN q room l]) (On.put (.obj [vi x.1.1, vi x.1.2.1, vb x.2.1]) hs6 1 rfl) ?_
 intro H7 hs8
 refine rSq [] [(0, .y (.one (.ptr q 0))), (1, xi i), (4, .y (.one (.ptr n1 0))), (5, xi 0), (13, xb false)] H7
   (cast trivial (by kernel_rfl)) (by kernel_rfl) ?_
 refine Wp.condF (by kernel_rfl) ?_
 refine Wp.skip ?_
 obtain ⟨⟨hb11a, hb11b, hb11c⟩, ⟨hl12, hs9⟩ | ⟨k13, d14, L15, o16, cd17, ho18, hc19, hl20, hs10⟩⟩ := ring_open hs8 2 rfl
 ·
  have hl12n : (l.length : Int) = 0 := by rw [hl12]; rfl
  exfalso; omega
 ·
  by_cases c22 : (i : Int) = 0
  ·
   have hlfz24 : ((l.drop 1).length : Int) = ((l.length : Int) - 1) := by { first | rfl | omega | (simp; done) | (simp; omega) }
   have hcall25 : Runs pg an 58 [.one (rowC k13 d14 L15.length o16 l.length cd17), .one (vi i)] H7 [.one (rowC k13 d14 L15.length ((((o16 : Int) + 1) : Int).toNat) ((l.drop 1).length) cd17)] H7 := by
    refine runs_of ?_
    refine Runs.of (fn := Try.f58) Try.func58 rfl (by kernel_rfl) [(0, .y (.one (rowC k13 d14 L15.length o16 l.length cd17))), (1, xi i)] (by kernel_rfl) ?_
    refine rSq [] [(0, .y (.one (rowC k13 d14 L15.length o16 l.length cd17))), (1, xi i)] H7
      (cast trivial (by kernel_rfl)) (by kernel_rfl) ?_
    refine Wp.seq ?_
    refine rSq [(1, xb true, H7)] [(0, .y (.one (rowC k13 d14 L15.length o16 l.length cd17))), (1, xi i), (6, xb true)] H7
      (cast (Jai (Ja (vals := [xi i, xi 0]) (H := H7) (op := .binOp .eql 3 (.tmp 0) (.tmp 1) 3) (ty := 0) (r := xb ((i : Int) == 0)) (v := xb true) (by kernel_rfl) (congrArg (fun z => xb z) (beq_t (by omega)))) trivial) (by kernel_rfl)) (by kernel_rfl) ?_
    refine Wp.condT (by kernel_rfl) ?_
    refine rSq [(1, .y (.one (rowC k13 d14 L15.length ((((o16 : Int) + 1) : Int).toNat) ((l.drop 1).length) cd17)), H7)] [(4, .y (.one (rowC k13 d14 L15.length ((((o16 : Int) + 1) : Int).toNat) ((l.drop 1).length) cd17)))] H7
      (cast (Jai (Ju (H := H7) (s := EN) (t := 23) (el := 40) (ty := 0) (pu := true) (id := k13) (d := d14) (o := o16) (n := l.length) (l := L15) (capd := cd17) (o' := ((((o16 : Int) + 1) : Int).toNat)) (n' := ((l.drop 1).length)) (a := 1) (On.at hs10 3 rfl) (by kernel_rfl) (by kernel_rfl) (by omega) (by first | rfl | omega | (simp; done) | (simp; omega)) (by first | rfl | omega | (simp; done) | (simp; omega)) (by first | rfl | omega | (simp; done) | (simp; omega)) (by first | rfl | omega | (simp; done) | (simp; omega))) trivial) (by kernel_rfl)) (by kernel_rfl) ?_
    refine Wp.ret ?_
    exact ⟨Or.inr rfl, [.one (rowC k13 d14 L15.length ((((o16 : Int) + 1) : Int).toNat) ((l.drop 1).length) cd17)], (by kernel_rfl), ⟨rfl, rfl⟩⟩
   refine rSq [(4, .y (.one (rowC k13 d14 L15.length o16 l.length cd17)), H7), (6, .y (.one (rowC k13 d14 L15.length ((((o16 : Int) + 1) : Int).toNat) ((l.drop 1).length) cd17)), H7), (9, .tup [], (List.set (α := O) H7 q (.obj [vi room, rowC k13 d14 L15.length ((((o16 : Int) + 1) : Int).toNat) ((l.drop 1).length) cd17])))] [(4, .y (.one (.ptr n1 0)))] (List.set (α := O) H7 q (.obj [vi room, rowC k13 d14 L15.length ((((o16 : Int) + 1) : Int).toNat) ((l.drop 1).length) cd17]))
     (cast (Jai (Jb (H := H7) (t := 23) (ty := 0) (id := q) (off := 1) (n := 1) (cs := [vi room, rowC k13 d14 L15.length o16 l.length cd17]) (cs' := [rowC k13 d14 L15.length o16 l.length cd17]) (v := .one (rowC k13 d14 L15.length o16 l.length cd17)) (On.at hs10 2 rfl) (by kernel_rfl) (by kernel_rfl) (by kernel_rfl) (by kernel_rfl)) (Jai (Jc (H := H7) (g := 58) (vals := [.y (.one (rowC k13 d14 L15.length o16 l.length cd17)), xi i]) (xs0 := [.one (rowC k13 d14 L15.length o16 l.length cd17), .one (vi i)]) (res := [.one (rowC k13 d14 L15.length ((((o16 : Int) + 1) : Int).toNat) ((l.drop 1).length) cd17)]) (ats := #[]) (ty := 0) (v := .y (.one (rowC k13 d14 L15.length ((((o16 : Int) + 1) : Int).toNat) ((l.drop 1).length) cd17))) (H' := H7) [.tmp 0, .tmp 1] (by kernel_rfl) (by kernel_rfl) hcall25 (by kernel_rfl)) (Jai (Je (H := H7) (t := 23) (ty := 0) (id := q) (off := 1) (cs := [vi room, rowC k13 d14 L15.length o16 l.length cd17]) (cs' := [vi room, rowC k13 d14 L15.length ((((o16 : Int) + 1) : Int).toNat) ((l.drop 1).length) cd17]) (v := .one (rowC k13 d14 L15.length ((((o16 : Int) + 1) : Int).toNat) ((l.drop 1).length) cd17)) (On.at hs10 2 rfl) (by kernel_rfl) (by kernel_rfl) (by kernel_rfl)) trivial))) (by kernel_rfl)) (by kernel_rfl) ?_
   refine Wp.gen (cs := [R, pts n1 (.obj [vi x.1.1, vi x.1.2.1, vb x.2.1]), pts q (.obj [vi room, rowC k13 d14 L15.length ((((o16 : Int) + 1) : Int).toNat) ((l.drop 1).length) cd17]), pts k13 (rowO EN true d14 L15)]) (On.put (.obj [vi room, rowC k13 d14 L15.length ((((o16 : Int) + 1) : Int).toNat) ((l.drop 1).length) cd17]) hs10 2 rfl) ?_
   intro H27 hs28
   refine rSq [(0, .y (.agg [vi x.1.1, vi x.1.2.1, vb x.2.1]), H27), (1, .tup [], (List.set (α := O) H27 n1 (.obj [vi x.1.1, vi x.1.2.1, vb x.2.1])))] [(4, .y (.one (.ptr n1 0))), (5, xi 0)] (List.set (α := O) H27 n1 (.obj [vi x.1.1, vi x.1.2.1, vb x.2.1]))
     (cast (Jai (Jb (H := H27) (t := 40) (ty := 0) (id := n1) (off := 0) (n := 3) (cs := [vi x.1.1, vi x.1.2.1, vb x.2.1]) (cs' := [vi x.1.1, vi x.1.2.1, vb x.2.1]) (v := .agg [vi x.1.1, vi x.1.2.1, vb x.2.1]) (On.at hs28 1 rfl) (by kernel_rfl) (by kernel_rfl) (by kernel_rfl) (by kernel_rfl)) (Jai (Je (H := H27) (t := 40) (ty := 0) (id := n1) (off := 0) (cs := [vi x.1.1, vi x.1.2.1, vb x.2.1]) (cs' := [vi x.1.1, vi x.1.2.1, vb x.2.1]) (v := .agg [vi x.1.1, vi x.1.2.1, vb x.2.1]) (On.at hs28 1 rfl) (by kernel_rfl) (by kernel_rfl) (by kernel_rfl)) trivial)) (by kernel_rfl)) (by kernel_rfl) ?_
   refine Wp.gen (cs := [R, pts n1 (.obj [vi x.1.1, vi x.1.2.1, vb x.2.1]), pts q (.obj [vi room, rowC k13 d14 L15.length ((((o16 : Int) + 1) : Int).toNat) ((l.drop 1).length) cd17]), pts k13 (rowO EN true d14 L15)]) (On.put (.obj [vi x.1.1, vi x.1.2.1, vb x.2.1]) hs28 1 rfl) ?_
   intro H29 hs30
   refine Wp.ret ?_
   refine ⟨Or.inr rfl, [.agg [vi x.1.1, vi x.1.2.1, vb x.2.1], .one (vi 0)], (cast (res_cons (P := pg) (e := [(4, .y (.one (.ptr n1 0))), (5, xi 0)]) (H := H29) (res_cell (P := pg) (e := [(4, .y (.one (.ptr n1 0))), (5, xi 0)]) (H := H29) (a := 4) (t := 40) (id := n1) (off := 0) (n := 3) (cs := [vi x.1.1, vi x.1.2.1, vb x.2.1]) (cs' := [vi x.1.1, vi x.1.2.1, vb x.2.1]) (v := .agg [vi x.1.1, vi x.1.2.1, vb x.2.1]) (by kernel_rfl) (by kernel_rfl) (On.at hs30 1 rfl) (by kernel_rfl) (by kernel_rfl) (by kernel_rfl)) (res_cons (P := pg) (e := [(4, .y (.one (.ptr n1 0))), (5, xi 0)]) (H := H29) (r := .tmp 5) (y := .one (vi 0)) (by kernel_rfl) res_nil)) (by kernel_rfl)), ?_⟩
   have hs31 : On [R, pts n1 (.obj [vi x.1.1, vi x.1.2.1, vb x.2.1]), ringP EN q room l'] H29 := On.shut (cs := [R, pts n1 (.obj [vi x.1.1, vi x.1.2.1, vb x.2.1]), pts q (.obj [vi room, rowC k13 d14 L15.length ((((o16 : Int) + 1) : Int).toNat) ((l.drop 1).length) cd17]), pts k13 (rowO EN true d14 L15)]) [2, 3] [0, 1] (by kernel_rfl) (fun _ x => ring_row ⟨by omega, by omega, by first | rfl | omega | (simp; done) | (simp; omega)⟩ (by first | rfl | omega | (simp; done) | (simp; omega)) (by first | rfl | omega | (simp; done) | (simp; omega)) (fun h => by have := hc19 h; first | rfl | omega | (simp; done) | (simp; omega)) (((content_sub (a := 1) (n' := (l.drop 1).length) (hl20) (by first | rfl | omega | (simp; done) | (simp; omega)) (by first | rfl | omega | (simp; done) | (simp; omega))).trans (dt1 (by first | rfl | omega | (simp; done) | (simp; omega)) (by first | rfl | omega | (simp; done) | (simp; omega)))).trans ((by first | exact hl' | (rw [← hl']; done) | (rw [← hl']; simp; done) | (rw [← hl']; apply List.ext_getElem?; intro j; simp [List.getElem?_append, List.getElem?_take, List.getElem?_drop]; omega) | (rw [← hl']; first | rfl | (apply List.ext_getElem?; intro i; first | (simp only [List.nil_append, List.append_nil, List.drop_zero, Nat.zero_add, List.getElem?_take, List.getElem?_drop, List.getElem?_append, List.length_take, List.length_drop, List.length_append, List.length_nil, List.getElem?_nil, Int.toNat_natCast]; done) | ((try simp only [List.nil_append, List.append_nil, List.drop_zero, Nat.zero_add, List.getElem?_take, List.getElem?_drop, List.getElem?_append, List.length_take, List.length_drop, List.length_append, List.length_nil, List.getElem?_nil, Int.toNat_natCast]); (repeat' split) <;> first | rfl | (congr 1; omega) | (exfalso; omega) | (exact List.getElem?_eq_none (by omega)) | (exact (List.getElem?_eq_none (by omega)).symm))))))) x) hs30
   exact ⟨rfl, (On.pick [0, 2] [1] (by kernel_rfl) hs31)⟩
  ·
   have hlfz33 : ((l.take ((i : Int).toNat)).length : Int) = i := by { first | rfl | omega | (simp; done) | (simp; omega) }
   have hlfz36 : ((l.drop (((i + 1) : Int).toNat)).length : Int) = ((l.length : Int) - i - 1) := by { first | rfl | omega | (simp; done) | (simp; omega) }
   by_cases c40 : (0 : Int) < ((l.drop (((i + 1) : Int).toNat)).length : Int)
   ·
    obtain ⟨n44, hn44⟩ : ∃ n, n = List.length (H7 : Go.Lg.Heap) := ⟨_, rfl⟩
    have hlfz48 : (((l.take ((i : Int).toNat)) ++ (l.drop (((i + 1) : Int).toNat))).length : Int) = (((l.take ((i : Int).toNat)).length : Int) + ((l.drop (((i + 1) : Int).toNat)).length : Int)) := by { first | rfl | omega | (simp; done) | (simp; omega) }
    have hcall49 : Runs pg an 58 [.one (rowC k13 d14 L15.length o16 l.length cd17), .one (vi i)] H7 [.one (rowC n44 0 ((l.take ((i : Int).toNat)) ++ (l.drop (((i + 1) : Int).toNat))).length 0 (((l.take ((i : Int).toNat)) ++ (l.drop (((i + 1) : Int).toNat))).length) false)] (H7 ++ [rowO EN true 0 ((l.take ((i : Int).toNat)) ++ (l.drop (((i + 1) : Int).toNat)))]) := by
     refine runs_of ?_
     refine Runs.of (fn := Try.f58) Try.func58 rfl (by kernel_rfl) [(0, .y (.one (rowC k13 d14 L15.length o16 l.length cd17))), (1, xi i)] (by kernel_rfl) ?_
     refine rSq [] [(0, .y (.one (rowC k13 d14 L15.length o16 l.length cd17))), (1, xi i)] H7
       (cast trivial (by kernel_rfl)) (by kernel_rfl) ?_
     refine Wp.seq ?_
     refine rSq [(1, xb false, H7)] [(0, .y (.one (rowC k13 d14 L15.length o16 l.length cd17))), (1, xi i), (6, xb false)] H7
       (cast (Jai (Ja (vals := [xi i, xi 0]) (H := H7) (op := .binOp .eql 3 (.tmp 0) (.tmp 1) 3) (ty := 0) (r := xb ((i : Int) == 0)) (v := xb false) (by kernel_rfl) (congrArg (fun z => xb z) (beq_f (by omega)))) trivial) (by kernel_rfl)) (by kernel_rfl) ?_
     refine Wp.condF (by kernel_rfl) ?_
     refine Wp.skip ?_
     refine rSq [(3, .y (.one (rowC k13 d14 L15.length o16 ((l.take ((i : Int).toNat)).length) true)), H7), (6, xi (i + 1), H7), (7, .y (.one (rowC k13 d14 L15.length ((((o16 : Int) + i + 1) : Int).toNat) ((l.drop (((i + 1) : Int).toNat)).length) cd17)), H7), (8, .y (.one (rowC n44 0 ((l.take ((i : Int).toNat)) ++ (l.drop (((i + 1) : Int).toNat))).length 0 (((l.take ((i : Int).toNat)) ++ (l.drop (((i + 1) : Int).toNat))).length) false)), (H7 ++ [rowO EN true 0 ((l.take ((i : Int).toNat)) ++ (l.drop (((i + 1) : Int).toNat)))]))] [(4, .y (.one (rowC n44 0 ((l.take ((i : Int).toNat)) ++ (l.drop (((i + 1) : Int).toNat))).length 0 (((l.take ((i : Int).toNat)) ++ (l.drop (((i + 1) : Int).toNat))).length) false)))] (H7 ++ [rowO EN true 0 ((l.take ((i : Int).toNat)) ++ (l.drop (((i + 1) : Int).toNat)))])
       (cast (Jai (Jp (H := H7) (s := EN) (t := 23) (el := 40) (ty := 0) (pu := true) (id := k13) (d := d14) (o := o16) (n := l.length) (l := L15) (capd := cd17) (n' := ((l.take ((i : Int).toNat)).length)) (h := i) (On.at hs10 3 rfl) (by kernel_rfl) (by kernel_rfl) (by omega) (by first | rfl | omega | (simp; done) | (simp; omega)) (by first | rfl | omega | (simp; done) | (simp; omega)) (by first | rfl | omega | (simp; done) | (simp; omega))) (Jai (Ja (vals := [xi i, xi 1]) (H := H7) (op := .binOp .add 3 (.tmp 0) (.tmp 1) 3) (ty := 0) (r := xi (IntKind.wrap .i64 (i + 1))) (v := xi (i + 1)) (by kernel_rfl) (congrArg (fun z => xi z) ((wrap64 (by omega)).trans (by omega)))) (Jai (Ju (H := H7) (s := EN) (t := 23) (el := 40) (ty := 0) (pu := true) (id := k13) (d := d14) (o := o16) (n := l.length) (l := L15) (capd := cd17) (o' := ((((o16 : Int) + i + 1) : Int).toNat)) (n' := ((l.drop (((i + 1) : Int).toNat)).length)) (a := (i + 1)) (On.at hs10 3 rfl) (by kernel_rfl) (by kernel_rfl) (by omega) (by first | rfl | omega | (simp; done) | (simp; omega)) (by first | rfl | omega | (simp; done) | (simp; omega)) (by first | rfl | omega | (simp; done) | (simp; omega)) (by first | rfl | omega | (simp; done) | (simp; omega))) (Jai (Jo (H := H7) (s := EN) (t := 23) (u := 23) (el := 40) (by_ := 24) (z := [vi 0, vi 0, vb false]) (ty := 0) (pu := true) (puy := true) (id := k13) (d := d14) (o := o16) (n := ((l.take ((i : Int).toNat)).length)) (m := ((l.drop (((i + 1) : Int).toNat)).length)) (l := L15) (lm := (l.drop (((i + 1) : Int).toNat))) (y := rowC k13 d14 L15.length ((((o16 : Int) + i + 1) : Int).toNat) ((l.drop (((i + 1) : Int).toNat)).length) cd17) (n' := ((l.take ((i : Int).toNat)) ++ (l.drop (((i + 1) : Int).toNat))).length) (k := n44) (l' := ((l.take ((i : Int).toNat)) ++ (l.drop (((i + 1) : Int).toNat)))) hn44 (On.at hs10 3 rfl) (slCells_rowO (H := H7) (s := EN) (pu := true) (capd := cd17) (id := k13) (d := d14) (o := ((((o16 : Int) + i + 1) : Int).toNat)) (n := ((l.drop (((i + 1) : Int).toNat)).length)) (l := L15) (m := (l.drop (((i + 1) : Int).toNat))) (On.at hs10 3 rfl) (by first | rfl | omega | (simp; done) | (simp; omega)) ((content_sub (a := (((i + 1) : Int).toNat)) (n' := (l.drop (((i + 1) : Int).toNat)).length) (hl20) (by first | rfl | omega | (simp; done) | (simp; omega)) (by first | rfl | omega | (simp; done) | (simp; omega))).trans (dt1 (by first | rfl | omega | (simp; done) | (simp; omega)) (by first | rfl | omega | (simp; done) | (simp; omega))))) (by kernel_rfl) (by kernel_rfl) (by kernel_rfl) (by kernel_rfl) (by kernel_rfl) (by kernel_rfl) (by kernel_rfl) (by first | rfl | omega | (simp; done) | (simp; omega)) (by first | rfl | omega | (simp; done) | (simp; omega)) (by first | rfl | omega | (simp; done) | (simp; omega)) (by omega) (by omega) (congrArg (fun z => z ++ _) ((content_sub (a := 0) (n' := (l.take ((i : Int).toNat)).length) (hl20) (by first | rfl | omega | (simp; done) | (simp; omega)) (by first | rfl | omega | (simp; done) | (simp; omega))).trans (take_len (by first | rfl | omega | (simp; done) | (simp; omega))))) (by first | (simp only [List.length_append]; done) | (simp only [List.length_append]; first | omega | (simp; done) | (simp; omega)))) trivial)))) (by kernel_rfl)) (by kernel_rfl) ?_
     refine Wp.ret ?_
     exact ⟨Or.inr rfl, [.one (rowC n44 0 ((l.take ((i : Int).toNat)) ++ (l.drop (((i + 1) : Int).toNat))).length 0 (((l.take ((i : Int).toNat)) ++ (l.drop (((i + 1) : Int).toNat))).length) false)], (by kernel_rfl), ⟨rfl, rfl⟩⟩
    refine rSq [(4, .y (.one (rowC k13 d14 L15.length o16 l.length cd17)), H7), (6, .y (.one (rowC n44 0 ((l.take ((i : Int).toNat)) ++ (l.drop (((i + 1) : Int).toNat))).length 0 (((l.take ((i : Int).toNat)) ++ (l.drop (((i + 1) : Int).toNat))).length) false)), (H7 ++ [rowO EN true 0 ((l.take ((i : Int).toNat)) ++ (l.drop (((i + 1) : Int).toNat)))])), (9, .tup [], (List.set (α := O) (H7 ++ [rowO EN true 0 ((l.take ((i : Int).toNat)) ++ (l.drop (((i + 1) : Int).toNat)))]) q (.obj [vi room, rowC n44 0 ((l.take ((i : Int).toNat)) ++ (l.drop (((i + 1) : Int).toNat))).length 0 (((l.take ((i : Int).toNat)) ++ (l.drop (((i + 1) : Int).toNat))).length) false])))] [(4, .y (.one (.ptr n1 0)))] (List.set (α := O) (H7 ++ [rowO EN true 0 ((l.take ((i : Int).toNat)) ++ (l.drop (((i + 1) : Int).toNat)))]) q (.obj [vi room, rowC n44 0 ((l.take ((i : Int).toNat)) ++ (l.drop (((i + 1) : Int).toNat))).length 0 (((l.take ((i : Int).toNat)) ++ (l.drop (((i + 1) : Int).toNat))).length) false]))
      (cast (Jai (Jb (H := H7) (t := 23) (ty := 0) (id := q) (off := 1) (n := 1) (cs := [vi room, rowC k13 d14 L15.length o16 l.length cd17]) (cs' := [rowC k13 d14 L15.length o16 l.length cd17]) (v := .one (rowC k13 d14 L15.length o16 l.length cd17)) (On.at hs10 2 rfl) (by kernel_rfl) (by kernel_rfl) (by kernel_rfl) (by kernel_rfl)) (Jai (Jc (H := H7) (g := 58) (vals := [.y (.one (rowC k13 d14 L15.length o16 l.length cd17)), xi i]) (xs0 := [.one (rowC k13 d14 L15.length o16 l.length cd17), .one (vi i)]) (res := [.one (rowC n44 0 ((l.take ((i : Int).toNat)) ++ (l.drop (((i + 1) : Int).toNat))).length 0 (((l.take ((i : Int).toNat)) ++ (l.drop (((i + 1) : Int).toNat))).length) false)]) (ats := #[]) (ty := 0) (v := .y (.one (rowC n44 0 ((l.take ((i : Int).toNat)) ++ (l.drop (((i + 1) : Int).toNat))).length 0 (((l.take ((i : Int).toNat)) ++ (l.drop (((i + 1) : Int).toNat))).length) false))) (H' := (H7 ++ [rowO EN true 0 ((l.take ((i : Int).toNat)) ++ (l.drop (((i + 1) : Int).toNat)))])) [.tmp 0, .tmp 1] (by kernel_rfl) (by kernel_rfl) hcall49 (by kernel_rfl)) (Jai (Je (H := (H7 ++ [rowO EN true 0 ((l.take ((i : Int).toNat)) ++ (l.drop (((i + 1) : Int).toNat)))])) (t := 23) (ty := 0) (id := q) (off := 1) (cs := [vi room, rowC k13 d14 L15.length o16 l.length cd17]) (cs' := [vi room, rowC n44 0 ((l.take ((i : Int).toNat)) ++ (l.drop (((i + 1) : Int).toNat))).length 0 (((l.take ((i : Int).toNat)) ++ (l.drop (((i + 1) : Int).toNat))).length) false]) (v := .one (rowC n44 0 ((l.take ((i : Int).toNat)) ++ (l.drop (((i + 1) : Int).toNat))).length 0 (((l.take ((i : Int).toNat)) ++ (l.drop (((i + 1) : Int).toNat))).length) false)) (On.at (On.new' hn44 (rowO EN true 0 ((l.take ((i : Int).toNat)) ++ (l.drop (((i + 1) : Int).toNat)))) hs10) 2 rfl) (by kernel_rfl) (by kernel_rfl) (by kernel_rfl)) trivial))) (by kernel_rfl)) (by kernel_rfl) ?_
    refine Wp.gen (cs := [R, pts n1 (.obj [vi x.1.1, vi x.1.2.1, vb x.2.1]), pts q (.obj [vi room, rowC n44 0 ((l.take ((i : Int).toNat)) ++ (l.drop (((i + 1) : Int).toNat))).length 0 (((l.take ((i : Int).toNat)) ++ (l.drop (((i + 1) : Int).toNat))).length) false]), pts k13 (rowO EN true d14 L15), pts n44 (rowO EN true 0 ((l.take ((i : Int).toNat)) ++ (l.drop (((i + 1) : Int).toNat))))]) (On.put (.obj [vi room, rowC n44 0 ((l.take ((i : Int).toNat)) ++ (l.drop (((i + 1) : Int).toNat))).length 0 (((l.take ((i : Int).toNat)) ++ (l.drop (((i + 1) : Int).toNat))).length) false]) (On.new' hn44 (rowO EN true 0 ((l.take ((i : Int).toNat)) ++ (l.drop (((i + 1) : Int).toNat)))) hs10) 2 rfl) ?_
    intro H53 hs54
    refine rSq [(0, .y (.agg [vi x.1.1, vi x.1.2.1, vb x.2.1]), H53), (1, .tup [], (List.set (α := O) H53 n1 (.obj [vi x.1.1, vi x.1.2.1, vb x.2.1])))] [(4, .y (.one (.ptr n1 0))), (5, xi 0)] (List.set (α := O) H53 n1 (.obj [vi x.1.1, vi x.1.2.1, vb x.2.1]))
      (cast (Jai (Jb (H := H53) (t := 40) (ty := 0) (id := n1) (off := 0) (n := 3) (cs := [vi x.1.1, vi x.1.2.1, vb x.2.1]) (cs' := [vi x.1.1, vi x.1.2.1, vb x.2.1]) (v := .agg [vi x.1.1, vi x.1.2.1, vb x.2.1]) (On.at hs54 1 rfl) (by kernel_rfl) (by kernel_rfl) (by kernel_rfl) (by kernel_rfl)) (Jai (Je (H := H53) (t := 40) (ty := 0) (id := n1) (off := 0) (cs := [vi x.1.1, vi x.1.2.1, vb x.2.1]) (cs' := [vi x.1.1, vi x.1.2.1, vb x.2.1]) (v := .agg [vi x.1.1, vi x.1.2.1, vb x.2.1]) (On.at hs54 1 rfl) (by kernel_rfl) (by kernel_rfl) (by kernel_rfl)) trivial)) (by kernel_rfl)) (by kernel_rfl) ?_
    refine Wp.gen (cs := [R, pts n1 (.obj [vi x.1.1, vi x.1.2.1, vb x.2.1]), pts q (.obj [vi room, rowC n44 0 ((l.take ((i : Int).toNat)) ++ (l.drop (((i + 1) : Int).toNat))).length 0 (((l.take ((i : Int).toNat)) ++ (l.drop (((i + 1) : Int).toNat))).length) false]), pts k13 (rowO EN true d14 L15), pts n44 (rowO EN true 0 ((l.take ((i : Int).toNat)) ++ (l.drop (((i + 1) : Int).toNat))))]) (On.put (.obj [vi x.1.1, vi x.1.2.1, vb x.2.1]) hs54 1 rfl) ?_
    intro H55 hs56
    refine Wp.ret ?_
    refine ⟨Or.inr rfl, [.agg [vi x.1.1, vi x.1.2.1, vb x.2.1], .one (vi 0)], (cast (res_cons (P := pg) (e := [(4, .y (.one (.ptr n1 0))), (5, xi 0)]) (H := H55) (res_cell (P := pg) (e := [(4, .y (.one (.ptr n1 0))), (5, xi 0)]) (H := H55) (a := 4) (t := 40) (id := n1) (off := 0) (n := 3) (cs := [vi x.1.1, vi x.1.2.1, vb x.2.1]) (cs' := [vi x.1.1, vi x.1.2.1, vb x.2.1]) (v := .agg [vi x.1.1, vi x.1.2.1, vb x.2.1]) (by kernel_rfl) (by kernel_rfl) (On.at hs56 1 rfl) (by kernel_rfl) (by kernel_rfl) (by kernel_rfl)) (res_cons (P := pg) (e := [(4, .y (.one (.ptr n1 0))), (5, xi 0)]) (H := H55) (r := .tmp 5) (y := .one (vi 0)) (by kernel_rfl) res_nil)) (by kernel_rfl)), ?_⟩
    have hs57 : On [R, pts n1 (.obj [vi x.1.1, vi x.1.2.1, vb x.2.1]), pts k13 (rowO EN true d14 L15), ringP EN q room l'] H55 := On.shut (cs := [R, pts n1 (.obj [vi x.1.1, vi x.1.2.1, vb x.2.1]), pts q (.obj [vi room, rowC n44 0 ((l.take ((i : Int).toNat)) ++ (l.drop (((i + 1) : Int).toNat))).length 0 (((l.take ((i : Int).toNat)) ++ (l.drop (((i + 1) : Int).toNat))).length) false]), pts k13 (rowO EN true d14 L15), pts n44 (rowO EN true 0 ((l.take ((i : Int).toNat)) ++ (l.drop (((i + 1) : Int).toNat))))]) [2, 4] [0, 1, 3] (by kernel_rfl) (fun _ x => ring_row ⟨by omega, by omega, by first | rfl | omega | (simp; done) | (simp; omega)⟩ (by first | rfl | omega | (simp; done) | (simp; omega)) (by first | rfl | omega | (simp; done) | (simp; omega)) (fun _ => by first | rfl | omega | (simp; done) | (simp; omega)) ((dt0 rfl (Nat.le_refl _)).trans ((by first | exact hl' | (rw [← hl']; done) | (rw [← hl']; simp; done) | (rw [← hl']; apply List.ext_getElem?; intro j; simp [List.getElem?_append, List.getElem?_take, List.getElem?_drop]; omega) | (rw [← hl']; first | rfl | (apply List.ext_getElem?; intro i; first | (simp only [List.nil_append, List.append_nil, List.drop_zero, Nat.zero_add, List.getElem?_take, List.getElem?_drop, List.getElem?_append, List.length_take, List.length_drop, List.length_append, List.length_nil, List.getElem?_nil, Int.toNat_natCast]; done) | ((try simp only [List.nil_append, List.append_nil, List.drop_zero, Nat.zero_add, List.getElem?_take, List.getElem?_drop, List.getElem?_append, List.length_take, List.length_drop, List.length_append, List.length_nil, List.getElem?_nil, Int.toNat_natCast]); (repeat' split) <;> first | rfl | (congr 1; omega) | (exfalso; omega) | (exact List.getElem?_eq_none (by omega)) | (exact (List.getElem?_eq_none (by omega)).symm))))))) x) hs56
    exact ⟨rfl, (On.pick [0, 3] [1, 2] (by kernel_rfl) hs57)⟩
   ·
    have hcall58 : Runs pg an 58 [.one (rowC k13 d14 L15.length o16 l.length cd17), .one (vi i)] H7 [.one (rowC k13 d14 L15.length o16 ((l.take ((i : Int).toNat)).length) true)] H7 := by
     refine runs_of ?_
     refine Runs.of (fn := Try.f58) Try.func58 rfl (by kernel_rfl) [(0, .y (.one (rowC k13 d14 L15.length o16 l.length cd17))), (1, xi i)] (by kernel_rfl) ?_
     refine rSq [] [(0, .y (.one (rowC k13 d14 L15.length o16 l.length cd17))), (1, xi i)] H7
       (cast trivial (by kernel_rfl)) (by kernel_rfl) ?_
     refine Wp.seq ?_
     refine rSq [(1, xb false, H7)] [(0, .y (.one (rowC k13 d14 L15.length o16 l.length cd17))), (1, xi i), (6, xb false)] H7
       (cast (Jai (Ja (vals := [xi i, xi 0]) (H := H7) (op := .binOp .eql 3 (.tmp 0) (.tmp 1) 3) (ty := 0) (r := xb ((i : Int) == 0)) (v := xb false) (by kernel_rfl) (congrArg (fun z => xb z) (beq_f (by omega)))) trivial) (by kernel_rfl)) (by kernel_rfl) ?_
     refine Wp.condF (by kernel_rfl) ?_
     refine Wp.skip ?_
     refine rSq [(3, .y (.one (rowC k13 d14 L15.length o16 ((l.take ((i : Int).toNat)).length) true)), H7), (6, xi (i + 1), H7), (7, .y (.one (rowC k13 d14 L15.length ((((o16 : Int) + i + 1) : Int).toNat) ((l.drop (((i + 1) : Int).toNat)).length) cd17)), H7), (8, .y (.one (rowC k13 d14 L15.length o16 ((l.take ((i : Int).toNat)).length) true)), H7)] [(4, .y (.one (rowC k13 d14 L15.length o16 ((l.take ((i : Int).toNat)).length) true)))] H7
       (cast (Jai (Jp (H := H7) (s := EN) (t := 23) (el := 40) (ty := 0) (pu := true) (id := k13) (d := d14) (o := o16) (n := l.length) (l := L15) (capd := cd17) (n' := ((l.take ((i : Int).toNat)).length)) (h := i) (On.at hs10 3 rfl) (by kernel_rfl) (by kernel_rfl) (by omega) (by first | rfl | omega | (simp; done) | (simp; omega)) (by first | rfl | omega | (simp; done) | (simp; omega)) (by first | rfl | omega | (simp; done) | (simp; omega))) (Jai (Ja (vals := [xi i, xi 1]) (H := H7) (op := .binOp .add 3 (.tmp 0) (.tmp 1) 3) (ty := 0) (r := xi (IntKind.wrap .i64 (i + 1))) (v := xi (i + 1)) (by kernel_rfl) (congrArg (fun z => xi z) ((wrap64 (by omega)).trans (by omega)))) (Jai (Ju (H := H7) (s := EN) (t := 23) (el := 40) (ty := 0) (pu := true) (id := k13) (d := d14) (o := o16) (n := l.length) (l := L15) (capd := cd17) (o' := ((((o16 : Int) + i + 1) : Int).toNat)) (n' := ((l.drop (((i + 1) : Int).toNat)).length)) (a := (i + 1)) (On.at hs10 3 rfl) (by kernel_rfl) (by kernel_rfl) (by omega) (by first | rfl | omega | (simp; done) | (simp; omega)) (by first | rfl | omega | (simp; done) | (simp; omega)) (by first | rfl | omega | (simp; done) | (simp; omega)) (by first | rfl | omega | (simp; done) | (simp; omega))) (Jai (Jv (H := H7) (t := 23) (u := 23) (el := 40) (by_ := 24) (z := [vi 0, vi 0, vb false]) (ty := 0) (sz := 3) (c := rowC k13 d14 L15.length o16 ((l.take ((i : Int).toNat)).length) true) (y := rowC k13 d14 L15.length ((((o16 : Int) + i + 1) : Int).toNat) ((l.drop (((i + 1) : Int).toNat)).length) cd17) (cs := (l.take ((i : Int).toNat)).flatMap (enc EN)) (n := ((l.take ((i : Int).toNat)).length)) (pu := true) (cs' := (l.drop (((i + 1) : Int).toNat)).flatMap (enc EN)) (puy := true) (slCells_rowO (H := H7) (s := EN) (pu := true) (capd := true) (id := k13) (d := d14) (o := o16) (n := ((l.take ((i : Int).toNat)).length)) (l := L15) (m := (l.take ((i : Int).toNat))) (On.at hs10 3 rfl) (by first | rfl | omega | (simp; done) | (simp; omega)) ((content_sub (a := 0) (n' := (l.take ((i : Int).toNat)).length) (hl20) (by first | rfl | omega | (simp; done) | (simp; omega)) (by first | rfl | omega | (simp; done) | (simp; omega))).trans (take_len (by first | rfl | omega | (simp; done) | (simp; omega))))) (((slCells_rowO (H := H7) (s := EN) (pu := true) (capd := cd17) (id := k13) (d := d14) (o := ((((o16 : Int) + i + 1) : Int).toNat)) (n := ((l.drop (((i + 1) : Int).toNat)).length)) (l := L15) (m := (l.drop (((i + 1) : Int).toNat))) (On.at hs10 3 rfl) (by first | rfl | omega | (simp; done) | (simp; omega)) ((content_sub (a := (((i + 1) : Int).toNat)) (n' := (l.drop (((i + 1) : Int).toNat)).length) (hl20) (by first | rfl | omega | (simp; done) | (simp; omega)) (by first | rfl | omega | (simp; done) | (simp; omega))).trans (dt1 (by first | rfl | omega | (simp; done) | (simp; omega)) (by first | rfl | omega | (simp; done) | (simp; omega)))))).trans (by rw [show ((l.drop (((i + 1) : Int).toNat)).length) = 0 from by first | rfl | omega | (simp; done) | (simp; omega)])) (by kernel_rfl) (by kernel_rfl) (by kernel_rfl) (by kernel_rfl) (by kernel_rfl) (by kernel_rfl)) trivial)))) (by kernel_rfl)) (by kernel_rfl) ?_
     refine Wp.ret ?_
     exact ⟨Or.inr rfl, [.one (rowC k13 d14 L15.length o16 ((l.take ((i : Int).toNat)).length) true)], (by kernel_rfl), ⟨rfl, rfl⟩⟩
    refine rSq [(4, .y (.one (rowC k13 d14 L15.length o16 l.length cd17)), H7), (6, .y (.one (rowC k13 d14 L15.length o16 ((l.take ((i : Int).toNat)).length) true)), H7), (9, .tup [], (List.set (α := O) H7 q (.obj [vi room, rowC k13 d14 L15.length o16 ((l.take ((i : Int).toNat)).length) true])))] [(4, .y (.one (.ptr n1 0)))] (List.set (α := O) H7 q (.obj [vi room, rowC k13 d14 L15.length o16 ((l.take ((i : Int).toNat)).length) true]))
      (cast (Jai (Jb (H := H7) (t := 23) (ty := 0) (id := q) (off := 1) (n := 1) (cs := [vi room, rowC k13 d14 L15.length o16 l.length cd17]) (cs' := [rowC k13 d14 L15.length o16 l.length cd17]) (v := .one (rowC k13 d14 L15.length o16 l.length cd17)) (On.at hs10 2 rfl) (by kernel_rfl) (by kernel_rfl) (by kernel_rfl) (by kernel_rfl)) (Jai (Jc (H := H7) (g := 58) (vals := [.y (.one (rowC k13 d14 L15.length o16 l.length cd17)), xi i]) (xs0 := [.one (rowC k13 d14 L15.length o16 l.length cd17), .one (vi i)]) (res := [.one (rowC k13 d14 L15.length o16 ((l.take ((i : Int).toNat)).length) true)]) (ats := #[]) (ty := 0) (v := .y (.one (rowC k13 d14 L15.length o16 ((l.take ((i : Int).toNat)).length) true))) (H' := H7) [.tmp 0, .tmp 1] (by kernel_rfl) (by kernel_rfl) hcall58 (by kernel_rfl)) (Jai (Je (H := H7) (t := 23) (ty := 0) (id := q) (off := 1) (cs := [vi room, rowC k13 d14 L15.length o16 l.length cd17]) (cs' := [vi room, rowC k13 d14 L15.length o16 ((l.take ((i : Int).toNat)).length) true]) (v := .one (rowC k13 d14 L15.length o16 ((l.take ((i : Int).toNat)).length) true)) (On.at hs10 2 rfl) (by kernel_rfl) (by kernel_rfl) (by kernel_rfl)) trivial))) (by kernel_rfl)) (by kernel_rfl) ?_
    refine Wp.gen (cs := [R, pts n1 (.obj [vi x.1.1, vi x.1.2.1, vb x.2.1]), pts q (.obj [vi room, rowC k13 d14 L15.length o16 ((l.take ((i : Int).toNat)).length) true]), pts k13 (rowO EN true d14 L15)]) (On.put (.obj [vi room, rowC k13 d14 L15.length o16 ((l.take ((i : Int).toNat)).length) true]) hs10 2 rfl) ?_
    intro H61 hs62
    refine rSq [(0, .y (.agg [vi x.1.1, vi x.1.2.1, vb x.2.1]), H61), (1, .tup [], (List.set (α := O) H61 n1 (.obj [vi x.1.1, vi x.1.2.1, vb x.2.1])))] [(4, .y (.one (.ptr n1 0))), (5, xi 0)] (List.set (α := O) H61 n1 (.obj [vi x.1.1, vi x.1.2.1, vb x.2.1]))
      (cast (Jai (Jb (H := H61) (t := 40) (ty := 0) (id := n1) (off := 0) (n := 3) (cs := [vi x.1.1, vi x.1.2.1, vb x.2.1]) (cs' := [vi x.1.1, vi x.1.2.1, vb x.2.1]) (v := .agg [vi x.1.1, vi x.1.2.1, vb x.2.1]) (On.at hs62 1 rfl) (by kernel_rfl) (by kernel_rfl) (by kernel_rfl) (by kernel_rfl)) (Jai (Je (H := H61) (t := 40) (ty := 0) (id := n1) (off := 0) (cs := [vi x.1.1, vi x.1.2.1, vb x.2.1]) (cs' := [vi x.1.1, vi x.1.2.1, vb x.2.1]) (v := .agg [vi x.1.1, vi x.1.2.1, vb x.2.1]) (On.at hs62 1 rfl) (by kernel_rfl) (by kernel_rfl) (by kernel_rfl)) trivial)) (by kernel_rfl)) (by kernel_rfl) ?_
    refine Wp.gen (cs := [R, pts n1 (.obj [vi x.1.1, vi x.1.2.1, vb x.2.1]), pts q (.obj [vi room, rowC k13 d14 L15.length o16 ((l.take ((i : Int).toNat)).length) true]), pts k13 (rowO EN true d14 L15)]) (On.put (.obj [vi x.1.1, vi x.1.2.1, vb x.2.1]) hs62 1 rfl) ?_
    intro H63 hs64
    refine Wp.ret ?_
    refine ⟨Or.inr rfl, [.agg [vi x.1.1, vi x.1.2.1, vb x.2.1], .one (vi 0)], (cast (res_cons (P := pg) (e := [(4, .y (.one (.ptr n1 0))), (5, xi 0)]) (H := H63) (res_cell (P := pg) (e := [(4, .y (.one (.ptr n1 0))), (5, xi 0)]) (H := H63) (a := 4) (t := 40) (id := n1) (off := 0) (n := 3) (cs := [vi x.1.1, vi x.1.2.1, vb x.2.1]) (cs' := [vi x.1.1, vi x.1.2.1, vb x.2.1]) (v := .agg [vi x.1.1, vi x.1.2.1, vb x.2.1]) (by kernel_rfl) (by kernel_rfl) (On.at hs64 1 rfl) (by kernel_rfl) (by kernel_rfl) (by kernel_rfl)) (res_cons (P := pg) (e := [(4, .y (.one (.ptr n1 0))), (5, xi 0)]) (H := H63) (r := .tmp 5) (y := .one (vi 0)) (by kernel_rfl) res_nil)) (by kernel_rfl)), ?_⟩
    have hs65 : On [R, pts n1 (.obj [vi x.1.1, vi x.1.2.1, vb x.2.1]), ringP EN q room l'] H63 := On.shut (cs := [R, pts n1 (.obj [vi x.1.1, vi x.1.2.1, vb x.2.1]), pts q (.obj [vi room, rowC k13 d14 L15.length o16 ((l.take ((i : Int).toNat)).length) true]), pts k13 (rowO EN true d14 L15)]) [2, 3] [0, 1] (by kernel_rfl) (fun _ x => ring_row ⟨by omega, by omega, by first | rfl | omega | (simp; done) | (simp; omega)⟩ (by first | rfl | omega | (simp; done) | (simp; omega)) (by first | rfl | omega | (simp; done) | (simp; omega)) (fun h => by cases h) (((content_sub (a := 0) (n' := (l.take ((i : Int).toNat)).length) (hl20) (by first | rfl | omega | (simp; done) | (simp; omega)) (by first | rfl | omega | (simp; done) | (simp; omega))).trans (take_len (by first | rfl | omega | (simp; done) | (simp; omega)))).trans ((by first | exact hl' | (rw [← hl']; done) | (rw [← hl']; simp; done) | (rw [← hl']; apply List.ext_getElem?; intro j; simp [List.getElem?_append, List.getElem?_take, List.getElem?_drop]; omega) | (rw [← hl']; first | rfl | (apply List.ext_getElem?; intro i; first | (simp only [List.nil_append, List.append_nil, List.drop_zero, Nat.zero_add, List.getElem?_take, List.getElem?_drop, List.getElem?_append, List.length_take, List.length_drop, List.length_append, List.length_nil, List.getElem?_nil, Int.toNat_natCast]; done) | ((try simp only [List.nil_append, List.append_nil, List.drop_zero, Nat.zero_add, List.getElem?_take, List.getElem?_drop, List.getElem?_append, List.length_take, List.length_drop, List.length_append, List.length_nil, List.getElem?_nil, Int.toNat_natCast]); (repeat' split) <;> first | rfl | (congr 1; omega) | (exfalso; omega) | (exact List.getElem?_eq_none (by omega)) | (exact (List.getElem?_eq_none (by omega)).symm))))))) x) hs64
    exact ⟨rfl, (On.pick [0, 2] [1] (by kernel_rfl) hs65)⟩
theorem pop_ok (R : HP) (H : Go.Lg.Heap) (q : Nat) (room : Int) (l : List EN.T) (x : EN.T) (hs : On [R, ringP EN q room l] H) (h1 : 0 < l.length) (hx : l[0]? = some x) : ∃ rs H', Runs pg an 34 [.one (.ptr q 0)] H rs H' ∧ rs = [.agg [vi x.1.1, vi x.1.2.1, vb x.2.1], .one (vi 0)] ∧ On [R, ringP EN q room (l.drop 1)] H' := by
 refine Runs.of (fn := Try.f34) Try.func34 rfl (by kernel_rfl) [(0, .y (.one (.ptr q 0)))] (by kernel_rfl) ?_
 obtain ⟨n1, hn1⟩ : ∃ n, n = List.length (H : Go.Lg.Heap) := ⟨_, rfl⟩
 refine rSq [(0, .y (.one (.ptr n1 0)), (H ++ [.obj [vi 0, vi 0, vb false]]))] [(0, .y (.one (.ptr q 0))), (2, .y (.one (.ptr n1 0)))] (H ++ [.obj [vi 0, vi 0, vb false]])
   (cast (Jai (Jg (H := H) (t := 40) (ty := 0) (n := n1) (cs := [vi 0, vi 0, vb false]) hn1 (by kernel_rfl)) trivial) (by kernel_rfl)) (by kernel_rfl) ?_
 refine Wp.gen (cs := [R, ringP EN q room l, pts n1 (.obj [vi 0, vi 0, vb false])]) (On.new' hn1 (.obj [vi 0, vi 0, vb false]) hs) ?_
 intro H2 hs3
 have hlfz4 : ((l.drop 1).length : Int) = ((l.length : Int) - 1) := by { first | rfl | omega | (simp; done) | (simp; omega) }
 obtain ⟨_, H6, hr7, rfl, hs8⟩ := take_ok _ (H2 : Go.Lg.Heap) (On.call [1] [0, 2] (by kernel_rfl) hs3) (q := q) (room := room) (l := l) (i := 0) (x := x) (by omega) (by first | rfl | omega | (simp; done) | (simp; omega)) hx (l' := (l.drop 1)) (by simp)
 have hs8 : On [R, pts n1 (.obj [vi 0, vi 0, vb false]), ringP EN q room (l.drop 1)] H6 := On.flat hs8
 refine rSq [(1, .tup [.agg [vi x.1.1, vi x.1.2.1, vb x.2.1], .one (vi 0)], H6), (4, .tup [], (List.set (α := O) H6 n1 (.obj [vi x.1.1, vi x.1.2.1, vb x.2.1])))] [(2, .y (.one (.ptr n1 0))), (3, xi 0)] (List.set (α := O) H6 n1 (.obj [vi x.1.1, vi x.1.2.1, vb x.2.1]))
   (cast (Jai (Jc (H := H2) (g := 39) (vals := [.y (.one (.ptr q 0)), xi 0]) (xs0 := [.one (.ptr q 0), .one (vi 0)]) (res := [.agg [vi x.1.1, vi x.1.2.1, vb x.2.1], .one (vi 0)]) (ats := #[]) (ty := 0) (v := .tup [.agg [vi x.1.1, vi x.1.2.1, vb x.2.1], .one (vi 0)]) (H' := H6) [.tmp 0, .tmp 1] (by kernel_rfl) (by kernel_rfl) hr7 (by kernel_rfl)) (Jai (Je (H := H6) (t := 40) (ty := 0) (id := n1) (off := 0) (cs := [vi 0, vi 0, vb false]) (cs' := [vi x.1.1, vi x.1.2.1, vb x.2.1]) (v := .agg [vi x.1.1, vi x.1.2.1, vb x.2.1]) (On.at hs8 1 rfl) (by kernel_rfl) (by kernel_rfl) (by kernel_rfl)) trivial)) (by kernel_rfl)) (by kernel_rfl) ?_
 refine Wp.gen (cs := [R, pts n1 (.obj [vi x.1.1, vi x.1.2.1, vb x.2.1]), ringP EN q room (l.drop 1)]) (On.put (.obj [vi x.1.1, vi x.1.2.1, vb x.2.1]) hs8 1 rfl) ?_
 intro H9 hs10
 refine Wp.ret ?_
 refine ⟨Or.inr rfl, [.agg [vi x.1.1, vi x.1.2.1, vb x.2.1], .one (vi 0)], (cast (res_cons (P := pg) (e := [(2, .y (.one (.ptr n1 0))), (3, xi 0)]) (H := H9) (res_cell (P := pg) (e := [(2, .y (.one (.ptr n1 0))), (3, xi 0)]) (H := H9) (a := 2) (t := 40) (id := n1) (off := 0) (n := 3) (cs := [vi x.1.1, vi x.1.2.1, vb x.2.1]) (cs' := [vi x.1.1, vi x.1.2.1, vb x.2.1]) (v := .agg [vi x.1.1, vi x.1.2.1, vb x.2.1]) (by kernel_rfl) (by kernel_rfl) (On.at hs10 1 rfl) (by kernel_rfl) (by kernel_rfl) (by kernel_rfl)) (res_cons (P := pg) (e := [(2, .y (.one (.ptr n1 0))), (3, xi 0)]) (H := H9) (r := .tmp 3) (y := .one (vi 0)) (by kernel_rfl) res_nil)) (by kernel_rfl)), ?_⟩
 exact ⟨rfl, (On.pick [0, 2] [1] (by kernel_rfl) hs10)⟩
theorem items_ok (R : HP) (H : Go.Lg.Heap) (q : Nat) (room : Int) (l : List EN.T) (hs : On [R, ringP EN q room l] H) : ∃ rs H', Runs pg an 55 [.one (.ptr q 0)] H rs H' ∧ ∃ k', rs = [.one (rowC k' 0 l.length 0 l.length true)] ∧ On [R, ringP EN q room l, pts k' (rowO EN true 0 l)] H' := by
 obtain ⟨⟨hb3a, hb3b, hb3c⟩, ⟨hl4, hs1⟩ | ⟨k5, d6, L7, o8, cd9, ho10, hc11, hl12, hs2⟩⟩ := ring_open hs 1 rfl
 ·
  have hl4n : (l.length : Int) = 0 := by rw [hl4]; rfl
  refine Runs.of (fn := Try.f55) Try.func55 rfl (by kernel_rfl) [(0, .y (.one (.ptr q 0)))] (by kernel_rfl) ?_
  refine rSq [] [(0, .y (.one (.ptr q 0)))] H
    (cast trivial (by kernel_rfl)) (by kernel_rfl) ?_
  refine Wp.seq ?_
  have hcall13 : Runs pg an 53 [.one (.ptr q 0)] H [.one (vb true)] H := by
   refine runs_of ?_
   refine Runs.of (fn := Try.f53) Try.func53 rfl (by kernel_rfl) [(0, .y (.one (.ptr q 0)))] (by kernel_rfl) ?_
   refine rSq [] [(0, .y (.one (.ptr q 0)))] H
     (cast trivial (by kernel_rfl)) (by kernel_rfl) ?_
   refine rSq [(6, xi room, H), (7, xb true, H)] [(2, xb true)] H
     (cast (Jai (Jb (H := H) (t := 3) (ty := 0) (id := q) (off := 0) (n := 1) (cs := [vi room, .sl false true true [] 0]) (cs' := [vi room]) (v := .one (vi room)) (On.at hs1 1 rfl) (by kernel_rfl) (by kernel_rfl) (by kernel_rfl) (by kernel_rfl)) (Jai (Ja (vals := [xi room, xi 0]) (H := H) (op := .binOp .gtr 3 (.tmp 0) (.tmp 1) 3) (ty := 0) (r := xb (decide ((room : Int) > 0))) (v := xb true) (by kernel_rfl) (congrArg (fun z => xb z) (decide_eq_true (by omega)))) trivial)) (by kernel_rfl)) (by kernel_rfl) ?_
   refine Wp.ret ?_
   exact ⟨Or.inr rfl, [.one (vb true)], (by kernel_rfl), ⟨rfl, rfl⟩⟩
  refine rSq [(1, xb true, H)] [(0, .y (.one (.ptr q 0))), (5, xb false)] H
    (cast (Jai (Jc (H := H) (g := 53) (vals := [.y (.one (.ptr q 0))]) (xs0 := [.one (.ptr q 0)]) (res := [.one (vb true)]) (ats := #[]) (ty := 0) (v := xb true) (H' := H) [.tmp 0] (by kernel_rfl) (by kernel_rfl) hcall13 (by kernel_rfl)) trivial) (by kernel_rfl)) (by kernel_rfl) ?_
  refine Wp.condF (by kernel_rfl) ?_
  refine Wp.skip ?_
  obtain ⟨_, H15, hr16, k14, rfl, hs17⟩ := own_nil _ (H : Go.Lg.Heap) (On.call [] [0, 1] (by kernel_rfl) hs1)
  have hs17 : On [R, pts q (.obj [vi room, .sl false true true [] 0]), pts k14 (rowO EN true 0 ([] : List EN.T))] H15 := On.flat hs17
  refine rSq [(3, .y (.one (.sl false true true [] 0)), H), (4, .y (.one (rowC k14 0 ([] : List EN.T).length 0 (([] : List EN.T).length) true)), H15)] [(2, .y (.one (rowC k14 0 ([] : List EN.T).length 0 (([] : List EN.T).length) true)))] H15
    (cast (Jai (Jb (H := H) (t := 23) (ty := 0) (id := q) (off := 1) (n := 1) (cs := [vi room, .sl false true true [] 0]) (cs' := [.sl false true true [] 0]) (v := .one (.sl false true true [] 0)) (On.at hs1 1 rfl) (by kernel_rfl) (by kernel_rfl) (by kernel_rfl) (by kernel_rfl)) (Jai (Jc (H := H) (g := 59) (vals := [.y (.one (.sl false true true [] 0))]) (xs0 := [.one (.sl false true true [] 0)]) (res := [.one (rowC k14 0 ([] : List EN.T).length 0 (([] : List EN.T).length) true)]) (ats := #[]) (ty := 0) (v := .y (.one (rowC k14 0 ([] : List EN.T).length 0 (([] : List EN.T).length) true))) (H' := H15) [.tmp 0] (by kernel_rfl) (by kernel_rfl) hr16 (by kernel_rfl)) trivial)) (by kernel_rfl)) (by kernel_rfl) ?_
  refine Wp.gen (cs := [R, pts q (.obj [vi room, .sl false true true [] 0]), pts k14 (rowO EN true 0 ([] : List EN.T))]) hs17 ?_
  intro H18 hs19
  refine Wp.ret ?_
  refine ⟨Or.inr rfl, [.one (rowC k14 0 ([] : List EN.T).length 0 (([] : List EN.T).length) true)], (by kernel_rfl), ?_⟩
  have hs20 : On [R, pts k14 (rowO EN true 0 ([] : List EN.T)), ringP EN q room l] H18 := On.shut (cs := [R, pts q (.obj [vi room, .sl false true true [] 0]), pts k14 (rowO EN true 0 ([] : List EN.T))]) [1] [0, 2] (by kernel_rfl) (fun _ x => ring_nil' (hl4) ⟨by omega, by omega⟩ x) hs19
  have hs21 := (On.pick [0, 2, 1] [] (by kernel_rfl) hs20)
  exact ⟨k14, congrArg (fun z : List EN.T => [Y.one (rowC k14 0 z.length 0 z.length true)]) (Eq.symm hl4), Eq.mp (congrArg (fun z : List EN.T => On [R, ringP EN q room l, pts k14 (rowO EN true 0 z)] _) (Eq.symm hl4)) hs21⟩
 ·
  refine Runs.of (fn := Try.f55) Try.func55 rfl (by kernel_rfl) [(0, .y (.one (.ptr q 0)))] (by kernel_rfl) ?_
  refine rSq [] [(0, .y (.one (.ptr q 0)))] H
    (cast trivial (by kernel_rfl)) (by kernel_rfl) ?_
  refine Wp.seq ?_
  have hcall22 : Runs pg an 53 [.one (.ptr q 0)] H [.one (vb true)] H := by
   refine runs_of ?_
   refine Runs.of (fn := Try.f53) Try.func53 rfl (by kernel_rfl) [(0, .y (.one (.ptr q 0)))] (by kernel_rfl) ?_
   refine rSq [] [(0, .y (.one (.ptr q 0)))] H
     (cast trivial (by kernel_rfl)) (by kernel_rfl) ?_
   refine rSq [(6, xi room, H), (7, xb true, H)] [(2, xb true)] H
     (cast (Jai (Jb (H := H) (t := 3) (ty := 0) (id := q) (off := 0) (n := 1) (cs := [vi room, rowC k5 d6 L7.length o8 l.length cd9]) (cs' := [vi room]) (v := .one (vi room)) (On.at hs2 1 rfl) (by kernel_rfl) (by kernel_rfl) (by kernel_rfl) (by kernel_rfl)) (Jai (Ja (vals := [xi room, xi 0]) (H := H) (op := .binOp .gtr 3 (.tmp 0) (.tmp 1) 3) (ty := 0) (r := xb (decide ((room : Int) > 0))) (v := xb true) (by kernel_rfl) (congrArg (fun z => xb z) (decide_eq_true (by omega)))) trivial)) (by kernel_rfl)) (by kernel_rfl) ?_
   refine Wp.ret ?_
   exact ⟨Or.inr rfl, [.one (vb true)], (by kernel_rfl), ⟨rfl, rfl⟩⟩
  refine rSq [(1, xb true, H)] [(0, .y (.one (.ptr q 0))), (5, xb false)] H
    (cast (Jai (Jc (H := H) (g := 53) (vals := [.y (.one (.ptr q 0))]) (xs0 := [.one (.ptr q 0)]) (res := [.one (vb true)]) (ats := #[]) (ty := 0) (v := xb true) (H' := H) [.tmp 0] (by kernel_rfl) (by kernel_rfl) hcall22 (by kernel_rfl)) trivial) (by kernel_rfl)) (by kernel_rfl) ?_
  refine Wp.condF (by kernel_rfl) ?_
  refine Wp.skip ?_
  obtain ⟨_, H24, hr25, k23, rfl, hs26⟩ := own_row _ (H : Go.Lg.Heap) (On.call [2] [0, 1] (by kernel_rfl) hs2) (k := k5) (d := d6) (o := o8) (capd := cd9) (L := L7) (l := l) (by first | rfl | omega | (simp; done) | (simp; omega)) (hl12) (by first | rfl | omega | (simp; done) | (simp; omega))
  have hs26 : On [R, pts q (.obj [vi room, rowC k5 d6 L7.length o8 l.length cd9]), pts k5 (rowO EN true d6 L7), pts k23 (rowO EN true 0 l)] H24 := On.flat hs26
  refine rSq [(3, .y (.one (rowC k5 d6 L7.length o8 l.length cd9)), H), (4, .y (.one (rowC k23 0 l.length 0 l.length true)), H24)] [(2, .y (.one (rowC k23 0 l.length 0 l.length true)))] H24
    (cast (Jai (Jb (H := H) (t := 23) (ty := 0) (id := q) (off := 1) (n := 1) (cs := [vi room, rowC k5 d6 L7.length o8 l.length cd9]) (cs' := [rowC k5 d6 L7.length o8 l.length cd9]) (v := .one (rowC k5 d6 L7.length o8 l.length cd9)) (On.at hs2 1 rfl) (by kernel_rfl) (by kernel_rfl) (by kernel_rfl) (by kernel_rfl)) (Jai (Jc (H := H) (g := 59) (vals := [.y (.one (rowC k5 d6 L7.length o8 l.length cd9))]) (xs0 := [.one (rowC k5 d6 L7.length o8 l.length cd9)]) (res := [.one (rowC k23 0 l.length 0 l.length true)]) (ats := #[]) (ty := 0) (v := .y (.one (rowC k23 0 l.length 0 l.length true))) (H' := H24) [.tmp 0] (by kernel_rfl) (by kernel_rfl) hr25 (by kernel_rfl)) trivial)) (by kernel_rfl)) (by kernel_rfl) ?_
  refine Wp.gen (cs := [R, pts q (.obj [vi room, rowC k5 d6 L7.length o8 l.length cd9]), pts k5 (rowO EN true d6 L7), pts k23 (rowO EN true 0 l)]) hs26 ?_
  intro H27 hs28
  refine Wp.ret ?_
  refine ⟨Or.inr rfl, [.one (rowC k23 0 l.length 0 l.length true)], (by kernel_rfl), ?_⟩
  have hs29 : On [R, pts k23 (rowO EN true 0 l), ringP EN q room l] H27 := On.shut (cs := [R, pts q (.obj [vi room, rowC k5 d6 L7.length o8 l.length cd9]), pts k5 (rowO EN true d6 L7), pts k23 (rowO EN true 0 l)]) [1, 2] [0, 3] (by kernel_rfl) (fun _ x => ring_row ⟨by omega, by omega, by first | rfl | omega | (simp; done) | (simp; omega)⟩ (by first | rfl | omega | (simp; done) | (simp; omega)) (by first | rfl | omega | (simp; done) | (simp; omega)) (fun h => by have := hc11 h; first | rfl | omega | (simp; done) | (simp; omega)) (hl12) x) hs28
  have hs30 := (On.pick [0, 2, 1] [] (by kernel_rfl) hs29)
  exact ⟨k23, rfl, hs30⟩
theorem join_full_s (R : HP) (H : Go.Lg.Heap) (q : Nat) (room : Int) (l : List EN.T) (b nil cp : Bool) (m : List EN.T) (hs : On [R, ringP EN q room l] H) (h1 : room < (l.length : Int) + m.length) : ∃ rs H', Runs pg an 44 [.one (.ptr q 0), .one (sv EN b nil cp m)] H rs H' ∧ rs = [.one (vi 2)] ∧ On [R, ringP EN q room l] H' := by
 refine Runs.of (fn := Try.f44) Try.func44 rfl (by kernel_rfl) [(0, .y (.one (.ptr q 0))), (1, .y (.one (sv EN b nil cp m)))] (by kernel_rfl) ?_
 refine rSq [] [(0, .y (.one (.ptr q 0))), (1, .y (.one (sv EN b nil cp m)))] H
   (cast trivial (by kernel_rfl)) (by kernel_rfl) ?_
 refine Wp.seq ?_
 obtain ⟨⟨hb4a, hb4b, hb4c⟩, ⟨hl5, hs2⟩ | ⟨k6, d7, L8, o9, cd10, ho11, hc12, hl13, hs3⟩⟩ := ring_open hs 1 rfl
 ·
  have hl5n : (l.length : Int) = 0 := by rw [hl5]; rfl
  have hcall14 : Runs pg an 53 [.one (.ptr q 0)] H [.one (vb true)] H := by
   refine runs_of ?_
   refine Runs.of (fn := Try.f53) Try.func53 rfl (by kernel_rfl) [(0, .y (.one (.ptr q 0)))] (by kernel_rfl) ?_
   refine rSq [] [(0, .y (.one (.ptr q 0)))] H
     (cast trivial (by kernel_rfl)) (by kernel_rfl) ?_
   refine rSq [(6, xi room, H), (7, xb true, H)] [(2, xb true)] H
     (cast (Jai (Jb (H := H) (t := 3) (ty := 0) (id := q) (off := 0) (n := 1) (cs := [vi room, .sl false true true [] 0]) (cs' := [vi room]) (v := .one (vi room)) (On.at hs2 1 rfl) (by kernel_rfl) (by kernel_rfl) (by kernel_rfl) (by kernel_rfl)) (Jai (Ja (vals := [xi room, xi 0]) (H := H) (op := .binOp .gtr 3 (.tmp 0) (.tmp 1) 3) (ty := 0) (r := xb (decide ((room : Int) > 0))) (v := xb true) (by kernel_rfl) (congrArg (fun z => xb z) (decide_eq_true (by omega)))) trivial)) (by kernel_rfl)) (by kernel_rfl) ?_
   refine Wp.ret ?_
   exact ⟨Or.inr rfl, [.one (vb true)], (by kernel_rfl), ⟨rfl, rfl⟩⟩
  refine rSq [(1, xb true, H)] [(0, .y (.one (.ptr q 0))), (1, .y (.one (sv EN b nil cp m))), (7, xb false)] H
    (cast (Jai (Jc (H := H) (g := 53) (vals := [.y (.one (.ptr q 0))]) (xs0 := [.one (.ptr q 0)]) (res := [.one (vb true)]) (ats := #[]) (ty := 0) (v := xb true) (H' := H) [.tmp 0] (by kernel_rfl) (by kernel_rfl) hcall14 (by kernel_rfl)) trivial) (by kernel_rfl)) (by kernel_rfl) ?_
  refine Wp.condF (by kernel_rfl) ?_
  refine Wp.skip ?_
  refine Wp.seq ?_
  have hcall15 : Runs pg an 60 [.one (.ptr q 0)] H [.one (vi room)] H := by
   refine runs_of ?_
   refine Runs.of (fn := Try.f60) Try.func60 rfl (by kernel_rfl) [(0, .y (.one (.ptr q 0)))] (by kernel_rfl) ?_
   refine rSq [] [(0, .y (.one (.ptr q 0)))] H
     (cast trivial (by kernel_rfl)) (by kernel_rfl) ?_
   refine Wp.seq ?_
   have hcall16 : Runs pg an 53 [.one (.ptr q 0)] H [.one (vb true)] H := by
    refine runs_of ?_
    refine Runs.of (fn := Try.f53) Try.func53 rfl (by kernel_rfl) [(0, .y (.one (.ptr q 0)))] (by kernel_rfl) ?_
    refine rSq [] [(0, .y (.one (.ptr q 0)))] H
      (cast trivial (by kernel_rfl)) (by kernel_rfl) ?_
    refine rSq [(6, xi room, H), (7, xb true, H)] [(2, xb true)] H
      (cast (Jai (Jb (H := H) (t := 3) (ty := 0) (id := q) (off := 0) (n := 1) (cs := [vi room, .sl false true true [] 0]) (cs' := [vi room]) (v := .one (vi room)) (On.at hs2 1 rfl) (by kernel_rfl) (by kernel_rfl) (by kernel_rfl) (by kernel_rfl)) (Jai (Ja (vals := [xi room, xi 0]) (H := H) (op := .binOp .gtr 3 (.tmp 0) (.tmp 1) 3) (ty := 0) (r := xb (decide ((room : Int) > 0))) (v := xb true) (by kernel_rfl) (congrArg (fun z => xb z) (decide_eq_true (by omega)))) trivial)) (by kernel_rfl)) (by kernel_rfl) ?_
    refine Wp.ret ?_
    exact ⟨Or.inr rfl, [.one (vb true)], (by kernel_rfl), ⟨rfl, rfl⟩⟩
   refine rSq [(1, xb true, H)] [(0, .y (.one (.ptr q 0))), (5, xb false)] H
     (cast (Jai (Jc (H := H) (g := 53) (vals := [.y (.one (.ptr q 0))]) (xs0 := [.one (.ptr q 0)]) (res := [.one (vb true)]) (ats := #[]) (ty := 0) (v := xb true) (H' := H) [.tmp 0] (by kernel_rfl) (by kernel_rfl) hcall16 (by kernel_rfl)) trivial) (by kernel_rfl)) (by kernel_rfl) ?_
   refine Wp.condF (by kernel_rfl) ?_
   refine Wp.skip ?_
   refine rSq [(3, xi room, H), (7, .y (.one (.sl false true true [] 0)), H), (9, xi room, H)] [(2, xi room)] H
     (cast (Jai (Jb (H := H) (t := 3) (ty := 0) (id := q) (off := 0) (n := 1) (cs := [vi room, .sl false true true [] 0]) (cs' := [vi room]) (v := .one (vi room)) (On.at hs2 1 rfl) (by kernel_rfl) (by kernel_rfl) (by kernel_rfl) (by kernel_rfl)) (Jai (Jb (H := H) (t := 23) (ty := 0) (id := q) (off := 1) (n := 1) (cs := [vi room, .sl false true true [] 0]) (cs' := [.sl false true true [] 0]) (v := .one (.sl false true true [] 0)) (On.at hs2 1 rfl) (by kernel_rfl) (by kernel_rfl) (by kernel_rfl) (by kernel_rfl)) (Jai (Ja (vals := [xi room, xi 0]) (H := H) (op := .binOp .sub 3 (.tmp 0) (.tmp 1) 3) (ty := 0) (r := xi (IntKind.wrap .i64 (room - 0))) (v := xi room) (by kernel_rfl) (congrArg (fun z => xi z) ((wrap64 (by omega)).trans (by omega)))) trivial))) (by kernel_rfl)) (by kernel_rfl) ?_
   refine Wp.ret ?_
   exact ⟨Or.inr rfl, [.one (vi room)], (by kernel_rfl), ⟨rfl, rfl⟩⟩
  refine rSq [(3, xi room, H), (4, xb true, H)] [(0, .y (.one (.ptr q 0))), (1, .y (.one (sv EN b nil cp m))), (12, xb true)] H
    (cast (Jai (Jc (H := H) (g := 60) (vals := [.y (.one (.ptr q 0))]) (xs0 := [.one (.ptr q 0)]) (res := [.one (vi room)]) (ats := #[]) (ty := 0) (v := xi room) (H' := H) [.tmp 0] (by kernel_rfl) (by kernel_rfl) hcall15 (by kernel_rfl)) (Jai (Ja (vals := [xi (m.length : Int), xi room]) (H := H) (op := .binOp .gtr 3 (.tmp 0) (.tmp 1) 3) (ty := 0) (r := xb (decide (((m.length : Int) : Int) > room))) (v := xb true) (by kernel_rfl) (congrArg (fun z => xb z) (decide_eq_true (by omega)))) trivial)) (by kernel_rfl)) (by kernel_rfl) ?_
  refine Wp.condT (by kernel_rfl) ?_
  refine rSq [] [(4, xi 2)] H
    (cast trivial (by kernel_rfl)) (by kernel_rfl) ?_
  refine Wp.ret ?_
  refine ⟨Or.inr rfl, [.one (vi 2)], (by kernel_rfl), ?_⟩
  have hs17 : On [R, ringP EN q room l] H := On.shut (cs := [R, pts q (.obj [vi room, .sl false true true [] 0])]) [1] [0] (by kernel_rfl) (fun _ x => ring_nil' (hl5) ⟨by omega, by omega⟩ x) hs2
  exact ⟨rfl, (On.pick [0, 1] [] (by kernel_rfl) hs17)⟩
 ·
  have hcall18 : Runs pg an 53 [.one (.ptr q 0)] H [.one (vb true)] H := by
   refine runs_of ?_
   refine Runs.of (fn := Try.f53) Try.func53 rfl (by kernel_rfl) [(0, .y (.one (.ptr q 0)))] (by kernel_rfl) ?_
   refine rSq [] [(0, .y (.one (.ptr q 0)))] H
     (cast trivial (by kernel_rfl)) (by kernel_rfl) ?_
   refine rSq [(6, xi room, H), (7, xb true, H)] [(2, xb true)] H
     (cast (Jai (Jb (H := H) (t := 3) (ty := 0) (id := q) (off := 0) (n := 1) (cs := [vi room, rowC k6 d7 L8.length o9 l.length cd10]) (cs' := [vi room]) (v := .one (vi room)) (On.at hs3 1 rfl) (by kernel_rfl) (by kernel_rfl) (by kernel_rfl) (by kernel_rfl)) (Jai (Ja (vals := [xi room, xi 0]) (H := H) (op := .binOp .gtr 3 (.tmp 0) (.tmp 1) 3) (ty := 0) (r := xb (decide ((room : Int) > 0))) (v := xb true) (by kernel_rfl) (congrArg (fun z => xb z) (decide_eq_true (by omega)))) trivial)) (by kernel_rfl)) (by kernel_rfl) ?_
   refine Wp.ret ?_
   exact ⟨Or.inr rfl, [.one (vb true)], (by kernel_rfl), ⟨rfl, rfl⟩⟩
  refine rSq [(1, xb true, H)] [(0, .y (.one (.ptr q 0))), (1, .y (.one (sv EN b nil cp m))), (7, xb false)] H
    (cast (Jai (Jc (H := H) (g := 53) (vals := [.y (.one (.ptr q 0))]) (xs0 := [.one (.ptr q 0)]) (res := [.one (vb true)]) (ats := #[]) (ty := 0) (v := xb true) (H' := H) [.tmp 0] (by kernel_rfl) (by kernel_rfl) hcall18 (by kernel_rfl)) trivial) (by kernel_rfl)) (by kernel_rfl) ?_
  refine Wp.condF (by kernel_rfl) ?_
  refine Wp.skip ?_
  refine Wp.seq ?_
  have hcall19 : Runs pg an 60 [.one (.ptr q 0)] H [.one (vi (room - (l.length : Int)))] H := by
   refine runs_of ?_
   refine Runs.of (fn := Try.f60) Try.func60 rfl (by kernel_rfl) [(0, .y (.one (.ptr q 0)))] (by kernel_rfl) ?_
   refine rSq [] [(0, .y (.one (.ptr q 0)))] H
     (cast trivial (by kernel_rfl)) (by kernel_rfl) ?_
   refine Wp.seq ?_
   have hcall20 : Runs pg an 53 [.one (.ptr q 0)] H [.one (vb true)] H := by
    refine runs_of ?_
    refine Runs.of (fn := Try.f53) Try.func53 rfl (by kernel_rfl) [(0, .y (.one (.ptr q 0)))] (by kernel_rfl) ?_
    refine rSq [] [(0, .y (.one (.ptr q 0)))] H
      (cast trivial (by kernel_rfl)) (by kernel_rfl) ?_
    refine rSq [(6, xi room, H), (7, xb true, H)] [(2, xb true)] H
      (cast (Jai (Jb (H := H) (t := 3) (ty := 0) (id := q) (off := 0) (n := 1) (cs := [vi room, rowC k6 d7 L8.length o9 l.length cd10]) (cs' := [vi room]) (v := .one (vi room)) (On.at hs3 1 rfl) (by kernel_rfl) (by kernel_rfl) (by kernel_rfl) (by kernel_rfl)) (Jai (Ja (vals := [xi room, xi 0]) (H := H) (op := .binOp .gtr 3 (.tmp 0) (.tmp 1) 3) (ty := 0) (r := xb (decide ((room : Int) > 0))) (v := xb true) (by kernel_rfl) (congrArg (fun z => xb z) (decide_eq_true (by omega)))) trivial)) (by kernel_rfl)) (by kernel_rfl) ?_
    refine Wp.ret ?_
    exact ⟨Or.inr rfl, [.one (vb true)], (by kernel_rfl), ⟨rfl, rfl⟩⟩
   refine rSq [(1, xb true, H)] [(0, .y (.one (.ptr q 0))), (5, xb false)] H
     (cast (Jai (Jc (H := H) (g := 53) (vals := [.y (.one (.ptr q 0))]) (xs0 := [.one (.ptr q 0)]) (res := [.one (vb true)]) (ats := #[]) (ty := 0) (v := xb true) (H' := H) [.tmp 0] (by kernel_rfl) (by kernel_rfl) hcall20 (by kernel_rfl)) trivial) (by kernel_rfl)) (by kernel_rfl) ?_
   refine Wp.condF (by kernel_rfl) ?_
   refine Wp.skip ?_
   refine rSq [(3, xi room, H), (7, .y (.one (rowC k6 d7 L8.length o9 l.length cd10)), H), (8, xi (l.length : Int), H), (9, xi (room - (l.length : Int)), H)] [(2, xi (room - (l.length : Int)))] H
     (cast (Jai (Jb (H := H) (t := 3) (ty := 0) (id := q) (off := 0) (n := 1) (cs := [vi room, rowC k6 d7 L8.length o9 l.length cd10]) (cs' := [vi room]) (v := .one (vi room)) (On.at hs3 1 rfl) (by kernel_rfl) (by kernel_rfl) (by kernel_rfl) (by kernel_rfl)) (Jai (Jb (H := H) (t := 23) (ty := 0) (id := q) (off := 1) (n := 1) (cs := [vi room, rowC k6 d7 L8.length o9 l.length cd10]) (cs' := [rowC k6 d7 L8.length o9 l.length cd10]) (v := .one (rowC k6 d7 L8.length o9 l.length cd10)) (On.at hs3 1 rfl) (by kernel_rfl) (by kernel_rfl) (by kernel_rfl) (by kernel_rfl)) (Jai (Jj (H := H) (s := EN) (t := 23) (ty := 0) (pu := true) (capd := cd10) (id := k6) (d := d7) (o := o9) (n := l.length) (l := L8) (e := (l.length : Int)) (On.at hs3 2 rfl) (by kernel_rfl) (by first | rfl | omega | (simp; done) | (simp; omega))) (Jai (Ja (vals := [xi room, xi (l.length : Int)]) (H := H) (op := .binOp .sub 3 (.tmp 0) (.tmp 1) 3) (ty := 0) (r := xi (IntKind.wrap .i64 (room - (l.length : Int)))) (v := xi (room - (l.length : Int))) (by kernel_rfl) (congrArg (fun z => xi z) ((wrap64 (by omega)).trans (by omega)))) trivial)))) (by kernel_rfl)) (by kernel_rfl) ?_
   refine Wp.ret ?_
   exact ⟨Or.inr rfl, [.one (vi (room - (l.length : Int)))], (by kernel_rfl), ⟨rfl, rfl⟩⟩
  refine rSq [(3, xi (room - (l.length : Int)), H), (4, xb true, H)] [(0, .y (.one (.ptr q 0))), (1, .y (.one (sv EN b nil cp m))), (12, xb true)] H
    (cast (Jai (Jc (H := H) (g := 60) (vals := [.y (.one (.ptr q 0))]) (xs0 := [.one (.ptr q 0)]) (res := [.one (vi (room - (l.length : Int)))]) (ats := #[]) (ty := 0) (v := xi (room - (l.length : Int))) (H' := H) [.tmp 0] (by kernel_rfl) (by kernel_rfl) hcall19 (by kernel_rfl)) (Jai (Ja (vals := [xi (m.length : Int), xi (room - (l.length : Int))]) (H := H) (op := .binOp .gtr 3 (.tmp 0) (.tmp 1) 3) (ty := 0) (r := xb (decide (((m.length : Int) : Int) > (room - (l.length : Int))))) (v := xb true) (by kernel_rfl) (congrArg (fun z => xb z) (decide_eq_true (by omega)))) trivial)) (by kernel_rfl)) (by kernel_rfl) ?_
  refine Wp.condT (by kernel_rfl) ?_
  refine rSq [] [(4, xi 2)] H
    (cast trivial (by kernel_rfl)) (by kernel_rfl) ?_
  refine Wp.ret ?_
  refine ⟨Or.inr rfl, [.one (vi 2)], (by kernel_rfl), ?_⟩
  have hs21 : On [R, ringP EN q room l] H := On.shut (cs := [R, pts q (.obj [vi room, rowC k6 d7 L8.length o9 l.length cd10]), pts k6 (rowO EN true d7 L8)]) [1, 2] [0] (by kernel_rfl) (fun _ x => ring_row ⟨by omega, by omega, by first | rfl | omega | (simp; done) | (simp; omega)⟩ (by first | rfl | omega | (simp; done) | (simp; omega)) (by first | rfl | omega | (simp; done) | (simp; omega)) (fun h => by have := hc12 h; first | rfl | omega | (simp; done) | (simp; omega)) (hl13) x) hs3
  exact ⟨rfl, (On.pick [0, 1] [] (by kernel_rfl) hs21)⟩
theorem join_ok_s (R : HP) (H : Go.Lg.Heap) (q : Nat) (room : Int) (l : List EN.T) (b nil cp : Bool) (m : List EN.T) (hs : On [R, ringP EN q room l] H) (h1 : (l.length : Int) + m.length ≤ room) : ∃ rs H', Runs pg an 44 [.one (.ptr q 0), .one (sv EN b nil cp m)] H rs H' ∧ rs = [.one (vi 0)] ∧ On [R, ringP EN q room (l ++ m)] H' := by
 have hle1 : ((l ++ m).length : Int) = l.length + m.length := by rw [List.length_append]; omega
 refine Runs.of (fn := Try.f44) Try.func44 rfl (by kernel_rfl) [(0, .y (.one (.ptr q 0))), (1, .y (.one (sv EN b nil cp m)))] (by kernel_rfl) ?_
 refine rSq [] [(0, .y (.one (.ptr q 0))), (1, .y (.one (sv EN b nil cp m)))] H
   (cast trivial (by kernel_rfl)) (by kernel_rfl) ?_
 refine Wp.seq ?_
 obtain ⟨⟨hb4a, hb4b, hb4c⟩, ⟨hl5, hs2⟩ | ⟨k6, d7, L8, o9, cd10, ho11, hc12, hl13, hs3⟩⟩ := ring_open hs 1 rfl
 ·
  have hl5n : (l.length : Int) = 0 := by rw [hl5]; rfl
  have hcall14 : Runs pg an 53 [.one (.ptr q 0)] H [.one (vb true)] H := by
   refine runs_of ?_
   refine Runs.of (fn := Try.f53) Try.func53 rfl (by kernel_rfl) [(0, .y (.one (.ptr q 0)))] (by kernel_rfl) ?_
   refine rSq [] [(0, .y (.one (.ptr q 0)))] H
     (cast trivial (by kernel_rfl)) (by kernel_rfl) ?_
   refine rSq [(6, xi room, H), (7, xb true, H)] [(2, xb true)] H
     (cast (Jai (Jb (H := H) (t := 3) (ty := 0) (id := q) (off := 0) (n := 1) (cs := [vi room, .sl false true true [] 0]) (cs' := [vi room]) (v := .one (vi room)) (On.at hs2 1 rfl) (by kernel_rfl) (by kernel_rfl) (by kernel_rfl) (by kernel_rfl)) (Jai (Ja (vals := [xi room, xi 0]) (H := H) (op := .binOp .gtr 3 (.tmp 0) (.tmp 1) 3) (ty := 0) (r := xb (decide ((room : Int) > 0))) (v := xb true) (by kernel_rfl) (congrArg (fun z => xb z) (decide_eq_true (by omega)))) trivial)) (by kernel_rfl)) (by kernel_rfl) ?_
   refine Wp.ret ?_
   exact ⟨Or.inr rfl, [.one (vb true)], (by kernel_rfl), ⟨rfl, rfl⟩⟩
  refine rSq [(1, xb true, H)] [(0, .y (.one (.ptr q 0))), (1, .y (.one (sv EN b nil cp m))), (7, xb false)] H
    (cast (Jai (Jc (H := H) (g := 53) (vals := [.y (.one (.ptr q 0))]) (xs0 := [.one (.ptr q 0)]) (res := [.one (vb true)]) (ats := #[]) (ty := 0) (v := xb true) (H' := H) [.tmp 0] (by kernel_rfl) (by kernel_rfl) hcall14 (by kernel_rfl)) trivial) (by kernel_rfl)) (by kernel_rfl) ?_
  refine Wp.condF (by kernel_rfl) ?_
  refine Wp.skip ?_
  refine Wp.seq ?_
  have hcall15 : Runs pg an 60 [.one (.ptr q 0)] H [.one (vi room)] H := by
   refine runs_of ?_
   refine Runs.of (fn := Try.f60) Try.func60 rfl (by kernel_rfl) [(0, .y (.one (.ptr q 0)))] (by kernel_rfl) ?_
   refine rSq [] [(0, .y (.one (.ptr q 0)))] H
     (cast trivial (by kernel_rfl)) (by kernel_rfl) ?_
   refine Wp.seq ?_
   have hcall16 : Runs pg an 53 [.one (.ptr q 0)] H [.one (vb true)] H := by
    refine runs_of ?_
    refine Runs.of (fn := Try.f53) Try.func53 rfl (by kernel_rfl) [(0, .y (.one (.ptr q 0)))] (by kernel_rfl) ?_
    refine rSq [] [(0, .y (.one (.ptr q 0)))] H
      (cast trivial (by kernel_rfl)) (by kernel_rfl) ?_
    refine rSq [(6, xi room, H), (7, xb true, H)] [(2, xb true)] H
      (cast (Jai (Jb (H := H) (t := 3) (ty := 0) (id := q) (off := 0) (n := 1) (cs := [vi room, .sl false true true [] 0]) (cs' := [vi room]) (v := .one (vi room)) (On.at hs2 1 rfl) (by kernel_rfl) (by kernel_rfl) (by kernel_rfl) (by kernel_rfl)) (Jai (Ja (vals := [xi room, xi 0]) (H := H) (op := .binOp .gtr 3 (.tmp 0) (.tmp 1) 3) (ty := 0) (r := xb (decide ((room : Int) > 0))) (v := xb true) (by kernel_rfl) (congrArg (fun z => xb z) (decide_eq_true (by omega)))) trivial)) (by kernel_rfl)) (by kernel_rfl) ?_
    refine Wp.ret ?_
    exact ⟨Or.inr rfl, [.one (vb true)], (by kernel_rfl), ⟨rfl, rfl⟩⟩
   refine rSq [(1, xb true, H)] [(0, .y (.one (.ptr q 0))), (5, xb false)] H
     (cast (Jai (Jc (H := H) (g := 53) (vals := [.y (.one (.ptr q 0))]) (xs0 := [.one (.ptr q 0)]) (res := [.one (vb true)]) (ats := #[]) (ty := 0) (v := xb true) (H' := H) [.tmp 0] (by kernel_rfl) (by kernel_rfl) hcall16 (by kernel_rfl)) trivial) (by kernel_rfl)) (by kernel_rfl) ?_
   refine Wp.condF (by kernel_rfl) ?_
   refine Wp.skip ?_
   refine rSq [(3, xi room, H), (7, .y (.one (.sl false true true [] 0)), H), (9, xi room, H)] [(2, xi room)] H
     (cast (Jai (Jb (H := H) (t := 3) (ty := 0) (id := q) (off := 0) (n := 1) (cs := [vi room, .sl false true true [] 0]) (cs' := [vi room]) (v := .one (vi room)) (On.at hs2 1 rfl) (by kernel_rfl) (by kernel_rfl) (by kernel_rfl) (by kernel_rfl)) (Jai (Jb (H := H) (t := 23) (ty := 0) (id := q) (off := 1) (n := 1) (cs := [vi room, .sl false true true [] 0]) (cs' := [.sl false true true [] 0]) (v := .one (.sl false true true [] 0)) (On.at hs2 1 rfl) (by kernel_rfl) (by kernel_rfl) (by kernel_rfl) (by kernel_rfl)) (Jai (Ja (vals := [xi room, xi 0]) (H := H) (op := .binOp .sub 3 (.tmp 0) (.tmp 1) 3) (ty := 0) (r := xi (IntKind.wrap .i64 (room - 0))) (v := xi room) (by kernel_rfl) (congrArg (fun z => xi z) ((wrap64 (by omega)).trans (by omega)))) trivial))) (by kernel_rfl)) (by kernel_rfl) ?_
   refine Wp.ret ?_
   exact ⟨Or.inr rfl, [.one (vi room)], (by kernel_rfl), ⟨rfl, rfl⟩⟩
  refine rSq [(3, xi room, H), (4, xb false, H)] [(0, .y (.one (.ptr q 0))), (1, .y (.one (sv EN b nil cp m))), (12, xb false)] H
    (cast (Jai (Jc (H := H) (g := 60) (vals := [.y (.one (.ptr q 0))]) (xs0 := [.one (.ptr q 0)]) (res := [.one (vi room)]) (ats := #[]) (ty := 0) (v := xi room) (H' := H) [.tmp 0] (by kernel_rfl) (by kernel_rfl) hcall15 (by kernel_rfl)) (Jai (Ja (vals := [xi (m.length : Int), xi room]) (H := H) (op := .binOp .gtr 3 (.tmp 0) (.tmp 1) 3) (ty := 0) (r := xb (decide (((m.length : Int) : Int) > room))) (v := xb false) (by kernel_rfl) (congrArg (fun z => xb z) (decide_eq_false (by omega)))) trivial)) (by kernel_rfl)) (by kernel_rfl) ?_
  refine Wp.condF (by kernel_rfl) ?_
  refine Wp.skip ?_
  by_cases c17 : (0 : Int) < (m.length : Int)
  ·
   obtain ⟨n18, hn18⟩ : ∃ n, n = List.length (H : Go.Lg.Heap) := ⟨_, rfl⟩
   refine rSq [(4, .y (.one (.sl false true true [] 0)), H), (6, .y (.one (rowC n18 0 m.length 0 m.length false)), (H ++ [rowO EN true 0 m])), (9, .tup [], (List.set (α := O) (H ++ [rowO EN true 0 m]) q (.obj [vi room, rowC n18 0 m.length 0 m.length false])))] [] (List.set (α := O) (H ++ [rowO EN true 0 m]) q (.obj [vi room, rowC n18 0 m.length 0 m.length false]))
     (cast (Jai (Jb (H := H) (t := 23) (ty := 0) (id := q) (off := 1) (n := 1) (cs := [vi room, .sl false true true [] 0]) (cs' := [.sl false true true [] 0]) (v := .one (.sl false true true [] 0)) (On.at hs2 1 rfl) (by kernel_rfl) (by kernel_rfl) (by kernel_rfl) (by kernel_rfl)) (Jai (Jm (H := H) (s := EN) (t := 23) (u := 23) (el := 40) (by_ := 24) (z := [vi 0, vi 0, vb false]) (ty := 0) (b' := false) (nil' := true) (pu := true) (puy := true) (m := m.length) (n' := m.length) (k := n18) (nl := 0) (l := ([] : List EN.T)) (lm := m) (l' := m) (y := sv EN b nil cp m) hn18 (by first | rfl | omega | (simp only [List.length_nil]; omega) | (simp; done) | (simp; omega)) (by kernel_rfl) (slCells_slO (H := H) (s := EN) (b := b) (nil := nil) (capd := cp) (l := m) (n := m.length) (by first | rfl | omega | (simp only [List.length_nil]; omega) | (simp; done) | (simp; omega))) (by kernel_rfl) (by kernel_rfl) (by kernel_rfl) (by kernel_rfl) (by kernel_rfl) (by kernel_rfl) (by kernel_rfl) (by first | rfl | omega | (simp only [List.length_nil]; omega) | (simp; done) | (simp; omega)) (by first | rfl | omega | (simp only [List.length_nil]; omega) | (simp; done) | (simp; omega)) (by omega) (by omega) (List.nil_append _) (by first | rfl | omega | (simp only [List.length_append, List.length_nil]; omega) | (simp; done) | (simp; omega))) (Jai (Je (H := (H ++ [rowO EN true 0 m])) (t := 23) (ty := 0) (id := q) (off := 1) (cs := [vi room, .sl false true true [] 0]) (cs' := [vi room, rowC n18 0 m.length 0 m.length false]) (v := .one (rowC n18 0 m.length 0 m.length false)) (On.at (On.new' hn18 (rowO EN true 0 m) hs2) 1 rfl) (by kernel_rfl) (by kernel_rfl) (by kernel_rfl)) trivial))) (by kernel_rfl)) (by kernel_rfl) ?_
   refine Wp.gen (cs := [R, pts q (.obj [vi room, rowC n18 0 m.length 0 m.length false]), pts n18 (rowO EN true 0 m)]) (On.put (.obj [vi room, rowC n18 0 m.length 0 m.length false]) (On.new' hn18 (rowO EN true 0 m) hs2) 1 rfl) ?_
   intro H19 hs20
   refine rSq [] [(4, xi 0)] H19
     (cast trivial (by kernel_rfl)) (by kernel_rfl) ?_
   refine Wp.ret ?_
   refine ⟨Or.inr rfl, [.one (vi 0)], (by kernel_rfl), ?_⟩
   have hs21 : On [R, ringP EN q room (l ++ m)] H19 := On.shut (cs := [R, pts q (.obj [vi room, rowC n18 0 m.length 0 m.length false]), pts n18 (rowO EN true 0 m)]) [1, 2] [0] (by kernel_rfl) (fun _ x => ring_row ⟨by omega, by omega, by first | rfl | omega | (simp; done) | (simp; omega)⟩ (by first | rfl | omega | (simp; done) | (simp; omega)) (by first | rfl | omega | (simp; done) | (simp; omega)) (fun _ => by first | rfl | omega | (simp; done) | (simp; omega)) ((dt0 rfl (Nat.le_refl _)).trans (by rw [hl5, List.nil_append])) x) hs20
   exact ⟨rfl, (On.pick [0, 1] [] (by kernel_rfl) hs21)⟩
  ·
   refine rSq [(4, .y (.one (.sl false true true [] 0)), H), (6, .y (.one (.sl false true true [] 0)), H), (9, .tup [], (List.set (α := O) H q (.obj [vi room, .sl false true true [] 0])))] [] (List.set (α := O) H q (.obj [vi room, .sl false true true [] 0]))
     (cast (Jai (Jb (H := H) (t := 23) (ty := 0) (id := q) (off := 1) (n := 1) (cs := [vi room, .sl false true true [] 0]) (cs' := [.sl false true true [] 0]) (v := .one (.sl false true true [] 0)) (On.at hs2 1 rfl) (by kernel_rfl) (by kernel_rfl) (by kernel_rfl) (by kernel_rfl)) (Jai (Jv (H := H) (t := 23) (u := 23) (el := 40) (by_ := 24) (z := [vi 0, vi 0, vb false]) (ty := 0) (sz := 3) (c := .sl false true true [] 0) (y := sv EN b nil cp m) (cs := ([] : List EN.T).flatMap (enc EN)) (n := 0) (pu := true) (cs' := m.flatMap (enc EN)) (puy := true) (slCells_slO (H := H) (s := EN) (b := false) (nil := true) (capd := true) (l := ([] : List EN.T)) (n := 0) (by first | rfl | omega | (simp only [List.length_nil]; omega) | (simp; done) | (simp; omega))) (((slCells_slO (H := H) (s := EN) (b := b) (nil := nil) (capd := cp) (l := m) (n := m.length) (by first | rfl | omega | (simp only [List.length_nil]; omega) | (simp; done) | (simp; omega)))).trans (by rw [show m.length = 0 from by first | rfl | omega | (simp only [List.length_nil]; omega) | (simp; done) | (simp; omega)])) (by kernel_rfl) (by kernel_rfl) (by kernel_rfl) (by kernel_rfl) (by kernel_rfl) (by kernel_rfl)) (Jai (Je (H := H) (t := 23) (ty := 0) (id := q) (off := 1) (cs := [vi room, .sl false true true [] 0]) (cs' := [vi room, .sl false true true [] 0]) (v := .one (.sl false true true [] 0)) (On.at hs2 1 rfl) (by kernel_rfl) (by kernel_rfl) (by kernel_rfl)) trivial))) (by kernel_rfl)) (by kernel_rfl) ?_
   refine Wp.gen (cs := [R, pts q (.obj [vi room, .sl false true true [] 0])]) (On.put (.obj [vi room, .sl false true true [] 0]) hs2 1 rfl) ?_
   intro H22 hs23
   refine rSq [] [(4, xi 0)] H22
     (cast trivial (by kernel_rfl)) (by kernel_rfl) ?_
   refine Wp.ret ?_
   refine ⟨Or.inr rfl, [.one (vi 0)], (by kernel_rfl), ?_⟩
   have hs24 : On [R, ringP EN q room (l ++ m)] H22 := On.shut (cs := [R, pts q (.obj [vi room, .sl false true true [] 0])]) [1] [0] (by kernel_rfl) (fun _ x => ring_nil' (by rw [hl5, List.nil_append]; exact List.eq_nil_of_length_eq_zero (by omega)) ⟨by omega, by omega⟩ x) hs23
   exact ⟨rfl, (On.pick [0, 1] [] (by kernel_rfl) hs24)⟩
 ·
  have hcall25 : Runs pg an 53 [.one (.ptr q 0)] H [.one (vb true)] H := by
   refine runs_of ?_
   refine Runs.of (fn := Try.f53) Try.func53 rfl (by kernel_rfl) [(0, .y (.one (.ptr q 0)))] (by kernel_rfl) ?_
   refine rSq [] [(0, .y (.one (.ptr q 0)))] H
     (cast trivial (by kernel_rfl)) (by kernel_rfl) ?_
   refine rSq [(6, xi room, H), (7, xb true, H)] [(2, xb true)] H
     (cast (Jai (Jb (H := H) (t := 3) (ty := 0) (id := q) (off := 0) (n := 1) (cs := [vi room, rowC k6 d7 L8.length o9 l.length cd10]) (cs' := [vi room]) (v := .one (vi room)) (On.at hs3 1 rfl) (by kernel_rfl) (by kernel_rfl) (by kernel_rfl) (by kernel_rfl)) (Jai (Ja (vals := [xi room, xi 0]) (H := H) (op := .binOp .gtr 3 (.tmp 0) (.tmp 1) 3) (ty := 0) (r := xb (decide ((room : Int) > 0))) (v := xb true) (by kernel_rfl) (congrArg (fun z => xb z) (decide_eq_true (by omega)))) trivial)) (by kernel_rfl)) (by kernel_rfl) ?_
   refine Wp.ret ?_
   exact ⟨Or.inr rfl, [.one (vb true)], (by kernel_rfl), ⟨rfl, rfl⟩⟩
  refine rSq [(1, xb true, H)] [(0, .y (.one (.ptr q 0))), (1, .y (.one (sv EN b nil cp m))), (7, xb false)] H
    (cast (Jai (Jc (H := H) (g := 53) (vals := [.y (.one (.ptr q 0))]) (xs0 := [.one (.ptr q 0)]) (res := [.one (vb true)]) (ats := #[]) (ty := 0) (v := xb true) (H' := H) [.tmp 0] (by kernel_rfl) (by kernel_rfl) hcall25 (by kernel_rfl)) trivial) (by kernel_rfl)) (by kernel_rfl) ?_
  refine Wp.condF (by kernel_rfl) ?_
  refine Wp.skip ?_
  refine Wp.seq ?_
  have hcall26 : Runs pg an 60 [.one (.ptr q 0)] H [.one (vi (room - (l.length : Int)))] H := by
   refine runs_of ?_
   refine Runs.of (fn := Try.f60) Try.func60 rfl (by kernel_rfl) [(0, .y (.one (.ptr q 0)))] (by kernel_rfl) ?_
   refine rSq [] [(0, .y (.one (.ptr q 0)))] H
     (cast trivial (by kernel_rfl)) (by kernel_rfl) ?_
   refine Wp.seq ?_
   have hcall27 : Runs pg an 53 [.one (.ptr q 0)] H [.one (vb true)] H := by
    refine runs_of ?_
    refine Runs.of (fn := Try.f53) Try.func53 rfl (by kernel_rfl) [(0, .y (.one (.ptr q 0)))] (by kernel_rfl) ?_
    refine rSq [] [(0, .y (.one (.ptr q 0)))] H
      (cast trivial (by kernel_rfl)) (by kernel_rfl) ?_
    refine rSq [(6, xi room, H), (7, xb true, H)] [(2, xb true)] H
      (cast (Jai (Jb (H := H) (t := 3) (ty := 0) (id := q) (off := 0) (n := 1) (cs := [vi room, rowC k6 d7 L8.length o9 l.length cd10]) (cs' := [vi room]) (v := .one (vi room)) (On.at hs3 1 rfl) (by kernel_rfl) (by kernel_rfl) (by kernel_rfl) (by kernel_rfl)) (Jai (Ja (vals := [xi room, xi 0]) (H := H) (op := .binOp .gtr 3 (.tmp 0) (.tmp 1) 3) (ty := 0) (r := xb (decide ((room : Int) > 0))) (v := xb true) (by kernel_rfl) (congrArg (fun z => xb z) (decide_eq_true (by omega)))) trivial)) (by kernel_rfl)) (by kernel_rfl) ?_
    refine Wp.ret ?_
    exact ⟨Or.inr rfl, [.one (vb true)], (by kernel_rfl), ⟨rfl, rfl⟩⟩
   refine rSq [(1, xb true, H)] [(0, .y (.one (.ptr q 0))), (5, xb false)] H
     (cast (Jai (Jc (H := H) (g := 53) (vals := [.y (.one (.ptr q 0))]) (xs0 := [.one (.ptr q 0)]) (res := [.one (vb true)]) (ats := #[]) (ty := 0) (v := xb true) (H' := H) [.tmp 0] (by kernel_rfl) (by kernel_rfl) hcall27 (by kernel_rfl)) trivial) (by kernel_rfl)) (by kernel_rfl) ?_
   refine Wp.condF (by kernel_rfl) ?_
   refine Wp.skip ?_
   refine rSq [(3, xi room, H), (7, .y (.one (rowC k6 d7 L8.length o9 l.length cd10)), H), (8, xi (l.length : Int), H), (9, xi (room - (l.length : Int)), H)] [(2, xi (room - (l.length : Int)))] H
     (cast (Jai (Jb (H := H) (t := 3) (ty := 0) (id := q) (off := 0) (n := 1) (cs := [vi room, rowC k6 d7 L8.length o9 l.length cd10]) (cs' := [vi room]) (v := .one (vi room)) (On.at hs3 1 rfl) (by kernel_rfl) (by kernel_rfl) (by kernel_rfl) (by kernel_rfl)) (Jai (Jb (H := H) (t := 23) (ty := 0) (id := q) (off := 1) (n := 1) (cs := [vi room, rowC k6 d7 L8.length o9 l.length cd10]) (cs' := [rowC k6 d7 L8.length o9 l.length cd10]) (v := .one (rowC k6 d7 L8.length o9 l.length cd10)) (On.at hs3 1 rfl) (by kernel_rfl) (by kernel_rfl) (by kernel_rfl) (by kernel_rfl)) (Jai (Jj (H := H) (s := EN) (t := 23) (ty := 0) (pu := true) (capd := cd10) (id := k6) (d := d7) (o := o9) (n := l.length) (l := L8) (e := (l.length : Int)) (On.at hs3 2 rfl) (by kernel_rfl) (by first | rfl | omega | (simp; done) | (simp; omega))) (Jai (Ja (vals := [xi room, xi (l.length : Int)]) (H := H) (op := .binOp .sub 3 (.tmp 0) (.tmp 1) 3) (ty := 0) (r := xi (IntKind.wrap .i64 (room - (l.length : Int)))) (v := xi (room - (l.length : Int))) (by kernel_rfl) (congrArg (fun z => xi z) ((wrap64 (by omega)).trans (by omega)))) trivial)))) (by kernel_rfl)) (by kernel_rfl) ?_
   refine Wp.ret ?_
   exact ⟨Or.inr rfl, [.one (vi (room - (l.length : Int)))], (by kernel_rfl), ⟨rfl, rfl⟩⟩
  refine rSq [(3, xi (room - (l.length : Int)), H), (4, xb false, H)] [(0, .y (.one (.ptr q 0))), (1, .y (.one (sv EN b nil cp m))), (12, xb false)] H
    (cast (Jai (Jc (H := H) (g := 60) (vals := [.y (.one (.ptr q 0))]) (xs0 := [.one (.ptr q 0)]) (res := [.one (vi (room - (l.length : Int)))]) (ats := #[]) (ty := 0) (v := xi (room - (l.length : Int))) (H' := H) [.tmp 0] (by kernel_rfl) (by kernel_rfl) hcall26 (by kernel_rfl)) (Jai (Ja (vals := [xi (m.length : Int), xi (room - (l.length : Int))]) (H := H) (op := .binOp .gtr 3 (.tmp 0) (.tmp 1) 3) (ty := 0) (r := xb (decide (((m.length : Int) : Int) > (room - (l.length : Int))))) (v := xb false) (by kernel_rfl) (congrArg (fun z => xb z) (decide_eq_false (by omega)))) trivial)) (by kernel_rfl)) (by kernel_rfl) ?_
  refine Wp.condF (by kernel_rfl) ?_
  refine Wp.skip ?_
  by_cases c28 : (0 : Int) < (m.length : Int)
  ·
   rcases Bool.eq_false_or_eq_true cd10 with rfl | rfl
   ·
    obtain ⟨n29, hn29⟩ : ∃ n, n = List.length (H : Go.Lg.Heap) := ⟨_, rfl⟩
    have hlfz30 : ((l ++ m).length : Int) = ((l.length : Int) + (m.length : Int)) := by { first | rfl | omega | (simp; done) | (simp; omega) }
    refine rSq [(4, .y (.one (rowC k6 d7 L8.length o9 l.length true)), H), (6, .y (.one (rowC n29 0 (l ++ m).length 0 ((l ++ m).length) false)), (H ++ [rowO EN true 0 (l ++ m)])), (9, .tup [], (List.set (α := O) (H ++ [rowO EN true 0 (l ++ m)]) q (.obj [vi room, rowC n29 0 (l ++ m).length 0 ((l ++ m).length) false])))] [] (List.set (α := O) (H ++ [rowO EN true 0 (l ++ m)]) q (.obj [vi room, rowC n29 0 (l ++ m).length 0 ((l ++ m).length) false]))
      (cast (Jai (Jb (H := H) (t := 23) (ty := 0) (id := q) (off := 1) (n := 1) (cs := [vi room, rowC k6 d7 L8.length o9 l.length true]) (cs' := [rowC k6 d7 L8.length o9 l.length true]) (v := .one (rowC k6 d7 L8.length o9 l.length true)) (On.at hs3 1 rfl) (by kernel_rfl) (by kernel_rfl) (by kernel_rfl) (by kernel_rfl)) (Jai (Jo (H := H) (s := EN) (t := 23) (u := 23) (el := 40) (by_ := 24) (z := [vi 0, vi 0, vb false]) (ty := 0) (pu := true) (puy := true) (id := k6) (d := d7) (o := o9) (n := l.length) (m := m.length) (l := L8) (lm := m) (y := sv EN b nil cp m) (n' := (l ++ m).length) (k := n29) (l' := (l ++ m)) hn29 (On.at hs3 2 rfl) (slCells_slO (H := H) (s := EN) (b := b) (nil := nil) (capd := cp) (l := m) (n := m.length) (by first | rfl | omega | (simp; done) | (simp; omega))) (by kernel_rfl) (by kernel_rfl) (by kernel_rfl) (by kernel_rfl) (by kernel_rfl) (by kernel_rfl) (by kernel_rfl) (by first | rfl | omega | (simp; done) | (simp; omega)) (by first | rfl | omega | (simp; done) | (simp; omega)) (by first | rfl | omega | (simp; done) | (simp; omega)) (by omega) (by omega) (congrArg (fun z => z ++ _) (hl13)) (by first | (simp only [List.length_append]; done) | (simp only [List.length_append]; first | omega | (simp; done) | (simp; omega)))) (Jai (Je (H := (H ++ [rowO EN true 0 (l ++ m)])) (t := 23) (ty := 0) (id := q) (off := 1) (cs := [vi room, rowC k6 d7 L8.length o9 l.length true]) (cs' := [vi room, rowC n29 0 (l ++ m).length 0 ((l ++ m).length) false]) (v := .one (rowC n29 0 (l ++ m).length 0 ((l ++ m).length) false)) (On.at (On.new' hn29 (rowO EN true 0 (l ++ m)) hs3) 1 rfl) (by kernel_rfl) (by kernel_rfl) (by kernel_rfl)) trivial))) (by kernel_rfl)) (by kernel_rfl) ?_
    refine Wp.gen (cs := [R, pts q (.obj [vi room, rowC n29 0 (l ++ m).length 0 ((l ++ m).length) false]), pts k6 (rowO EN true d7 L8), pts n29 (rowO EN true 0 (l ++ m))]) (On.put (.obj [vi room, rowC n29 0 (l ++ m).length 0 ((l ++ m).length) false]) (On.new' hn29 (rowO EN true 0 (l ++ m)) hs3) 1 rfl) ?_
    intro H32 hs33
    refine rSq [] [(4, xi 0)] H32
      (cast trivial (by kernel_rfl)) (by kernel_rfl) ?_
    refine Wp.ret ?_
    refine ⟨Or.inr rfl, [.one (vi 0)], (by kernel_rfl), ?_⟩
    have hs34 : On [R, pts k6 (rowO EN true d7 L8), ringP EN q room (l ++ m)] H32 := On.shut (cs := [R, pts q (.obj [vi room, rowC n29 0 (l ++ m).length 0 ((l ++ m).length) false]), pts k6 (rowO EN true d7 L8), pts n29 (rowO EN true 0 (l ++ m))]) [1, 3] [0, 2] (by kernel_rfl) (fun _ x => ring_row ⟨by omega, by omega, by first | rfl | omega | (simp; done) | (simp; omega)⟩ (by first | rfl | omega | (simp; done) | (simp; omega)) (by first | rfl | omega | (simp; done) | (simp; omega)) (fun _ => by first | rfl | omega | (simp; done) | (simp; omega)) ((dt0 rfl (Nat.le_refl _)).trans (show (l ++ m) = l ++ m from rfl)) x) hs33
    exact ⟨rfl, (On.pick [0, 2] [1] (by kernel_rfl) hs34)⟩
   ·
    have hc12z := hc12 rfl
    have hlfz35 : ((l ++ m).length : Int) = ((l.length : Int) + (m.length : Int)) := by { first | rfl | omega | (simp; done) | (simp; omega) }
    refine rSq [(4, .y (.one (rowC k6 d7 L8.length o9 l.length false)), H), (6, .y (.one (rowC k6 (d7 + o9) (l ++ m).length 0 ((l ++ m).length) false)), (List.set (α := O) H k6 (rowO EN true (d7 + o9) (l ++ m)))), (9, .tup [], (List.set (α := O) (List.set (α := O) H k6 (rowO EN true (d7 + o9) (l ++ m))) q (.obj [vi room, rowC k6 (d7 + o9) (l ++ m).length 0 ((l ++ m).length) false])))] [] (List.set (α := O) (List.set (α := O) H k6 (rowO EN true (d7 + o9) (l ++ m))) q (.obj [vi room, rowC k6 (d7 + o9) (l ++ m).length 0 ((l ++ m).length) false]))
      (cast (Jai (Jb (H := H) (t := 23) (ty := 0) (id := q) (off := 1) (n := 1) (cs := [vi room, rowC k6 d7 L8.length o9 l.length false]) (cs' := [rowC k6 d7 L8.length o9 l.length false]) (v := .one (rowC k6 d7 L8.length o9 l.length false)) (On.at hs3 1 rfl) (by kernel_rfl) (by kernel_rfl) (by kernel_rfl) (by kernel_rfl)) (Jai (Jq (H := H) (s := EN) (t := 23) (u := 23) (el := 40) (by_ := 24) (z := [vi 0, vi 0, vb false]) (ty := 0) (pu := true) (puy := true) (id := k6) (d := d7) (o := o9) (n := l.length) (m := m.length) (l := L8) (lm := m) (y := sv EN b nil cp m) (d' := (d7 + o9)) (l' := (l ++ m)) (n' := (l ++ m).length) (On.at hs3 2 rfl) (slCells_slO (H := H) (s := EN) (b := b) (nil := nil) (capd := cp) (l := m) (n := m.length) (by first | rfl | omega | (simp; done) | (simp; omega))) (by kernel_rfl) (by kernel_rfl) (by kernel_rfl) (by kernel_rfl) (by kernel_rfl) (by kernel_rfl) (by kernel_rfl) (by first | rfl | omega | (simp; done) | (simp; omega)) (by first | rfl | omega | (simp; done) | (simp; omega)) (by first | rfl | omega | (simp; done) | (simp; omega)) (by omega) (by omega) (by omega) (congrArg (fun z => z ++ m) (show L8.drop o9 = l from (List.take_of_length_le (by rw [List.length_drop]; omega)).symm.trans (hl13))) (by first | (simp only [List.length_append]; done) | (simp only [List.length_append]; first | omega | (simp; done) | (simp; omega)))) (Jai (Je (H := (List.set (α := O) H k6 (rowO EN true (d7 + o9) (l ++ m)))) (t := 23) (ty := 0) (id := q) (off := 1) (cs := [vi room, rowC k6 d7 L8.length o9 l.length false]) (cs' := [vi room, rowC k6 (d7 + o9) (l ++ m).length 0 ((l ++ m).length) false]) (v := .one (rowC k6 (d7 + o9) (l ++ m).length 0 ((l ++ m).length) false)) (On.at (On.put (rowO EN true (d7 + o9) (l ++ m)) hs3 2 rfl) 1 rfl) (by kernel_rfl) (by kernel_rfl) (by kernel_rfl)) trivial))) (by kernel_rfl)) (by kernel_rfl) ?_
    refine Wp.gen (cs := [R, pts q (.obj [vi room, rowC k6 (d7 + o9) (l ++ m).length 0 ((l ++ m).length) false]), pts k6 (rowO EN true (d7 + o9) (l ++ m))]) (On.put (.obj [vi room, rowC k6 (d7 + o9) (l ++ m).length 0 ((l ++ m).length) false]) (On.put (rowO EN true (d7 + o9) (l ++ m)) hs3 2 rfl) 1 rfl) ?_
    intro H37 hs38
    refine rSq [] [(4, xi 0)] H37
      (cast trivial (by kernel_rfl)) (by kernel_rfl) ?_
    refine Wp.ret ?_
    refine ⟨Or.inr rfl, [.one (vi 0)], (by kernel_rfl), ?_⟩
    have hs39 : On [R, ringP EN q room (l ++ m)] H37 := On.shut (cs := [R, pts q (.obj [vi room, rowC k6 (d7 + o9) (l ++ m).length 0 ((l ++ m).length) false]), pts k6 (rowO EN true (d7 + o9) (l ++ m))]) [1, 2] [0] (by kernel_rfl) (fun _ x => ring_row ⟨by omega, by omega, by first | rfl | omega | (simp; done) | (simp; omega)⟩ (by first | rfl | omega | (simp; done) | (simp; omega)) (by first | rfl | omega | (simp; done) | (simp; omega)) (fun _ => by first | rfl | omega | (simp; done) | (simp; omega)) ((dt0 rfl (Nat.le_refl _)).trans (show (l ++ m) = l ++ m from rfl)) x) hs38
    exact ⟨rfl, (On.pick [0, 1] [] (by kernel_rfl) hs39)⟩
  ·
   refine rSq [(4, .y (.one (rowC k6 d7 L8.length o9 l.length cd10)), H), (6, .y (.one (rowC k6 d7 L8.length o9 l.length cd10)), H), (9, .tup [], (List.set (α := O) H q (.obj [vi room, rowC k6 d7 L8.length o9 l.length cd10])))] [] (List.set (α := O) H q (.obj [vi room, rowC k6 d7 L8.length o9 l.length cd10]))
     (cast (Jai (Jb (H := H) (t := 23) (ty := 0) (id := q) (off := 1) (n := 1) (cs := [vi room, rowC k6 d7 L8.length o9 l.length cd10]) (cs' := [rowC k6 d7 L8.length o9 l.length cd10]) (v := .one (rowC k6 d7 L8.length o9 l.length cd10)) (On.at hs3 1 rfl) (by kernel_rfl) (by kernel_rfl) (by kernel_rfl) (by kernel_rfl)) (Jai (Jv (H := H) (t := 23) (u := 23) (el := 40) (by_ := 24) (z := [vi 0, vi 0, vb false]) (ty := 0) (sz := 3) (c := rowC k6 d7 L8.length o9 l.length cd10) (y := sv EN b nil cp m) (cs := l.flatMap (enc EN)) (n := l.length) (pu := true) (cs' := m.flatMap (enc EN)) (puy := true) (slCells_rowO (H := H) (s := EN) (pu := true) (capd := cd10) (id := k6) (d := d7) (o := o9) (n := l.length) (l := L8) (m := l) (On.at hs3 2 rfl) (by first | rfl | omega | (simp; done) | (simp; omega)) (hl13)) (((slCells_slO (H := H) (s := EN) (b := b) (nil := nil) (capd := cp) (l := m) (n := m.length) (by first | rfl | omega | (simp; done) | (simp; omega)))).trans (by rw [show m.length = 0 from by first | rfl | omega | (simp; done) | (simp; omega)])) (by kernel_rfl) (by kernel_rfl) (by kernel_rfl) (by kernel_rfl) (by kernel_rfl) (by kernel_rfl)) (Jai (Je (H := H) (t := 23) (ty := 0) (id := q) (off := 1) (cs := [vi room, rowC k6 d7 L8.length o9 l.length cd10]) (cs' := [vi room, rowC k6 d7 L8.length o9 l.length cd10]) (v := .one (rowC k6 d7 L8.length o9 l.length cd10)) (On.at hs3 1 rfl) (by kernel_rfl) (by kernel_rfl) (by kernel_rfl)) trivial))) (by kernel_rfl)) (by kernel_rfl) ?_
   refine Wp.gen (cs := [R, pts q (.obj [vi room, rowC k6 d7 L8.length o9 l.length cd10]), pts k6 (rowO EN true d7 L8)]) (On.put (.obj [vi room, rowC k6 d7 L8.length o9 l.length cd10]) hs3 1 rfl) ?_
   intro H40 hs41
   refine rSq [] [(4, xi 0)] H40
     (cast trivial (by kernel_rfl)) (by kernel_rfl) ?_
   refine Wp.ret ?_
   refine ⟨Or.inr rfl, [.one (vi 0)], (by kernel_rfl), ?_⟩
   have hs42 : On [R, ringP EN q room (l ++ m)] H40 := On.shut (cs := [R, pts q (.obj [vi room, rowC k6 d7 L8.length o9 l.length cd10]), pts k6 (rowO EN true d7 L8)]) [1, 2] [0] (by kernel_rfl) (fun _ x => ring_row ⟨by omega, by omega, by first | rfl | omega | (simp; done) | (simp; omega)⟩ (by first | rfl | omega | (simp; done) | (simp; omega)) (by first | rfl | omega | (simp; done) | (simp; omega)) (fun h => by have := hc12 h; first | rfl | omega | (simp; done) | (simp; omega)) ((hl13).trans (by rw [show m = [] from List.eq_nil_of_length_eq_zero (by omega), List.append_nil])) x) hs41
   exact ⟨rfl, (On.pick [0, 1] [] (by kernel_rfl) hs42)⟩
theorem push_full (R : HP) (H : Go.Lg.Heap) (q : Nat) (room : Int) (l : List EN.T) (x : EN.T) (hs : On [R, ringP EN q room l] H) (h1 : room ≤ l.length) : ∃ rs H', Runs pg an 42 [.one (.ptr q 0), .agg [vi x.1.1, vi x.1.2.1, vb x.2.1]] H rs H' ∧ rs = [.one (vi 2)] ∧ On [R, ringP EN q room l] H' := by
 refine Runs.of (fn := Try.f42) Try.func42 rfl (by kernel_rfl) [(0, .y (.one (.ptr q 0))), (1, .y (.agg [vi x.1.1, vi x.1.2.1, vb x.2.1]))] (by kernel_rfl) ?_
 obtain ⟨n1, hn1⟩ : ∃ n, n = List.length (H : Go.Lg.Heap) := ⟨_, rfl⟩
 refine rSq [(0, .y (.one (.ptr n1 0)), (H ++ [.obj [vi x.1.1, vi x.1.2.1, vb x.2.1]]))] [(0, .y (.one (.ptr q 0))), (3, .y (.one (.ptr n1 0)))] (H ++ [.obj [vi x.1.1, vi x.1.2.1, vb x.2.1]])
   (cast (Jai (Jh (H := H) (t := 40) (ty := 0) (n := n1) (v := .agg [vi x.1.1, vi x.1.2.1, vb x.2.1]) (cs := [vi x.1.1, vi x.1.2.1, vb x.2.1]) hn1 (by kernel_rfl) (by kernel_rfl) (by kernel_rfl)) trivial) (by kernel_rfl)) (by kernel_rfl) ?_
 refine Wp.gen (cs := [R, ringP EN q room l, pts n1 (.obj [vi x.1.1, vi x.1.2.1, vb x.2.1])]) (On.new' hn1 (.obj [vi x.1.1, vi x.1.2.1, vb x.2.1]) hs) ?_
 intro H2 hs3
 have hlfz4 : (([x] : List EN.T).length : Int) = 1 := by { first | rfl | omega | (simp; done) | (simp; omega) }
 obtain ⟨_, H6, hr7, rfl, hs8⟩ := join_full_s _ (H2 : Go.Lg.Heap) (On.call [1] [0, 2] (by kernel_rfl) hs3) (q := q) (room := room) (l := l) (b := false) (nil := false) (cp := true) (m := ([x] : List EN.T)) (by first | rfl | omega | (simp; done) | (simp; omega))
 have hs8 : On [R, pts n1 (.obj [vi x.1.1, vi x.1.2.1, vb x.2.1]), ringP EN q room l] H6 := On.flat hs8
 refine rSq [(1, .y (.agg [vi x.1.1, vi x.1.2.1, vb x.2.1]), H2), (3, xi 2, H6)] [(4, xi 2)] H6
   (cast (Jai (Jb (H := H2) (t := 40) (ty := 0) (id := n1) (off := 0) (n := 3) (cs := [vi x.1.1, vi x.1.2.1, vb x.2.1]) (cs' := [vi x.1.1, vi x.1.2.1, vb x.2.1]) (v := .agg [vi x.1.1, vi x.1.2.1, vb x.2.1]) (On.at hs3 2 rfl) (by kernel_rfl) (by kernel_rfl) (by kernel_rfl) (by kernel_rfl)) (Jai (Jc (H := H2) (g := 44) (vals := [.y (.one (.ptr q 0)), .y (.one (.sl false false true [vi x.1.1, vi x.1.2.1, vb x.2.1] 1))]) (xs0 := [.one (.ptr q 0), .one (.sl false false true [vi x.1.1, vi x.1.2.1, vb x.2.1] 1)]) (res := [.one (vi 2)]) (ats := #[]) (ty := 0) (v := xi 2) (H' := H6) [.tmp 0, .tmp 1] (by kernel_rfl) (by kernel_rfl) hr7 (by kernel_rfl)) trivial)) (by kernel_rfl)) (by kernel_rfl) ?_
 refine Wp.gen (cs := [R, pts n1 (.obj [vi x.1.1, vi x.1.2.1, vb x.2.1]), ringP EN q room l]) hs8 ?_
 intro H9 hs10
 refine Wp.ret ?_
 refine ⟨Or.inr rfl, [.one (vi 2)], (by kernel_rfl), ?_⟩
 exact ⟨rfl, (On.pick [0, 2] [1] (by kernel_rfl) hs10)⟩
theorem push_ok (R : HP) (H : Go.Lg.Heap) (q : Nat) (room : Int) (l : List EN.T) (x : EN.T) (hs : On [R, ringP EN q room l] H) (h1 : (l.length : Int) < room) : ∃ rs H', Runs pg an 42 [.one (.ptr q 0), .agg [vi x.1.1, vi x.1.2.1, vb x.2.1]] H rs H' ∧ rs = [.one (vi 0)] ∧ On [R, ringP EN q room (l ++ [x])] H' := by
 refine Runs.of (fn := Try.f42) Try.func42 rfl (by kernel_rfl) [(0, .y (.one (.ptr q 0))), (1, .y (.agg [vi x.1.1, vi x.1.2.1, vb x.2.1]))] (by kernel_rfl) ?_
 obtain ⟨n1, hn1⟩ : ∃ n, n = List.length (H : Go.Lg.Heap) := ⟨_, rfl⟩
 refine rSq [(0, .y (.one (.ptr n1 0)), (H ++ [.obj [vi x.1.1, vi x.1.2.1, vb x.2.1]]))] [(0, .y (.one (.ptr q 0))), (3, .y (.one (.ptr n1 0)))] (H ++ [.obj [vi x.1.1, vi x.1.2.1, vb x.2.1]])
   (cast (Jai (Jh (H := H) (t := 40) (ty := 0) (n := n1) (v := .agg [vi x.1.1, vi x.1.2.1, vb x.2.1]) (cs := [vi x.1.1, vi x.1.2.1, vb x.2.1]) hn1 (by kernel_rfl) (by kernel_rfl) (by kernel_rfl)) trivial) (by kernel_rfl)) (by kernel_rfl) ?_
 refine Wp.gen (cs := [R, ringP EN q room l, pts n1 (.obj [vi x.1.1, vi x.1.2.1, vb x.2.1])]) (On.new' hn1 (.obj [vi x.1.1, vi x.1.2.1, vb x.2.1]) hs) ?_
 intro H2 hs3
 have hlfz4 : (([x] : List EN.T).length : Int) = 1 := by { first | rfl | omega | (simp; done) | (simp; omega) }
 have hlfz6 : ((l ++ ([x] : List EN.T)).length : Int) = ((l.length : Int) + 1) := by { first | rfl | omega | (simp; done) | (simp; omega) }
 obtain ⟨_, H9, hr10, rfl, hs11⟩ := join_ok_s _ (H2 : Go.Lg.Heap) (On.call [1] [0, 2] (by kernel_rfl) hs3) (q := q) (room := room) (l := l) (b := false) (nil := false) (cp := true) (m := ([x] : List EN.T)) (by first | rfl | omega | (simp; done) | (simp; omega))
 have hs11 : On [R, pts n1 (.obj [vi x.1.1, vi x.1.2.1, vb x.2.1]), ringP EN q room (l ++ ([x] : List EN.T))] H9 := On.flat hs11
 refine rSq [(1, .y (.agg [vi x.1.1, vi x.1.2.1, vb x.2.1]), H2), (3, xi 0, H9)] [(4, xi 0)] H9
   (cast (Jai (Jb (H := H2) (t := 40) (ty := 0) (id := n1) (off := 0) (n := 3) (cs := [vi x.1.1, vi x.1.2.1, vb x.2.1]) (cs' := [vi x.1.1, vi x.1.2.1, vb x.2.1]) (v := .agg [vi x.1.1, vi x.1.2.1, vb x.2.1]) (On.at hs3 2 rfl) (by kernel_rfl) (by kernel_rfl) (by kernel_rfl) (by kernel_rfl)) (Jai (Jc (H := H2) (g := 44) (vals := [.y (.one (.ptr q 0)), .y (.one (.sl false false true [vi x.1.1, vi x.1.2.1, vb x.2.1] 1))]) (xs0 := [.one (.ptr q 0), .one (.sl false false true [vi x.1.1, vi x.1.2.1, vb x.2.1] 1)]) (res := [.one (vi 0)]) (ats := #[]) (ty := 0) (v := xi 0) (H' := H9) [.tmp 0, .tmp 1] (by kernel_rfl) (by kernel_rfl) hr10 (by kernel_rfl)) trivial)) (by kernel_rfl)) (by kernel_rfl) ?_
 refine Wp.gen (cs := [R, pts n1 (.obj [vi x.1.1, vi x.1.2.1, vb x.2.1]), ringP EN q room (l ++ ([x] : List EN.T))]) hs11 ?_
 intro H12 hs13
 refine Wp.ret ?_
 refine ⟨Or.inr rfl, [.one (vi 0)], (by kernel_rfl), ?_⟩
 exact ⟨rfl, (On.pick [0, 2] [1] (by kernel_rfl) hs13)⟩
end Go.Proofs.Ytjdnhbnpdbpgbaa
