/- Lemmas. -/
import Derived.Test.YtoidoeappihplaaR19SA
namespace Go.Proofs.Ytoidoeappihplaa
open Go.Lg
set_option linter.unusedVariables false
set_option maxRecDepth 100000
set_option maxHeartbeats 8000000
set_option linter.unusedSimpArgs false
theorem own_row (R : HP) (H : HH) (k d o : Nat) (capd : Bool) (L l : List EN.T) (hs : On [R, pts k (rowO EN true d L)] H) (ho : o + l.length ≤ L.length) (hl : (L.drop o).take l.length = l) (hm : (l.length : Int) ≤ 65536) : ∃ rs H', Runs pg an 49 [.one (rowC k d L.length o l.length capd)] H rs H' ∧ ∃ k', rs = [.one (rowC k' 0 l.length 0 l.length true)] ∧ On [R, pts k (rowO EN true d L), pts k' (rowO EN true 0 l)] H' := by
 refine Runs.of (fn := Try.f49) Try.func49 rfl (by kernel_rfl) [(0, .y (.one (rowC k d L.length o l.length capd)))] (by kernel_rfl) ?_
 refine rS0 [(0, .y (.one (rowC k d L.length o l.length capd)))] (by kernel_rfl) ?_
 obtain ⟨n1, hn1⟩ : ∃ n, n = List.length (H : HH) := ⟨_, rfl⟩
 obtain ⟨zs2, hzs2, hlzs2⟩ : ∃ zs : List EN.T, zs = List.replicate ((l.length : Int) : Int).toNat (((0, (0, ())), (false, ()))) ∧ (zs.length : Int) = (l.length : Int) := ⟨_, rfl, by first | (simp; done) | (simp; omega) | omega⟩
 refine rSq [(1, xi (l.length : Int), H), (2, .y (.one (rowC n1 0 zs2.length 0 zs2.length false)), (H ++ [rowO EN true 0 zs2]))] [(0, .y (.one (rowC k d L.length o l.length capd))), (3, .y (.one (rowC n1 0 zs2.length 0 zs2.length false)))] (H ++ [rowO EN true 0 zs2])
   (cast (Jai (Jm (H := H) (s := EN) (t := 22) (ty := 0) (pu := true) (capd := capd) (id := k) (d := d) (o := o) (n := l.length) (l := L) (e := (l.length : Int)) (On.at hs 1 rfl) (by kernel_rfl) (by first | rfl | omega | simp <;> omega)) (JZ (Jn1 (H := H) (s := EN) (t := 22) (el := 35) (ty := 0) (by_ := 24) (k := n1) (n' := zs2.length) (pu := true) (z := ((0, (0, ())), (false, ()))) (zs := zs2) (n := (l.length : Int)) (c := (l.length : Int)) hn1 (by kernel_rfl) hzs2 (by kernel_rfl) (by kernel_rfl) (by kernel_rfl) (by kernel_rfl) (by kernel_rfl) (by omega) (by omega) (by omega) (by omega) (by omega)))) (by kernel_rfl)) (by kernel_rfl) ?_
 refine wG (On.new' hn1 (rowO EN true 0 zs2) hs) ?_
 intro H3 hs4
 refine rSq [(2, xi (l.length : Int), (sto H3 n1 (rowO EN true 0 l)))] [(0, .y (.one (rowC k d L.length o l.length capd))), (3, .y (.one (rowC n1 0 zs2.length 0 zs2.length false)))] (sto H3 n1 (rowO EN true 0 l))
   (cast (JZ (Jo1 (H := H3) (s := EN) (t := 22) (u := 22) (el := 35) (ty := 0) (pu := true) (puy := true) (capd := false) (id := n1) (n := l.length) (d := 0) (nn := zs2.length) (l := zs2) (lm := l) (y := rowC k d L.length o l.length capd) (m := (l.length : Int)) rfl (On.at hs4 2 rfl) (slCells_rowO (H := H3) (s := EN) (pu := true) (capd := capd) (id := k) (d := d) (o := o) (n := l.length) (l := L) (m := l) (On.at hs4 1 rfl) (by first | rfl | omega | simp <;> omega) (hl)) (by kernel_rfl) (by kernel_rfl) (by kernel_rfl) (by first | rfl | omega | simp <;> omega) (by first | rfl | omega | simp <;> omega) (by first | rfl | omega | simp <;> omega) (by first | rfl | omega | simp <;> omega))) (by kernel_rfl)) (by kernel_rfl) ?_
 rw [show zs2.length = l.length from by first | rfl | omega | simp <;> omega]
 refine wG (On.put (rowO EN true 0 l) hs4 2 rfl) ?_
 intro H5 hs6
 refine rSq [(2, xi (l.length : Int), H5), (4, xi (l.length : Int), H5), (5, .y (.one (rowC n1 0 l.length 0 l.length true)), H5)] [(2, .y (.one (rowC n1 0 l.length 0 l.length true)))] H5
   (cast (Jai (Jm (H := H5) (s := EN) (t := 22) (ty := 0) (pu := true) (capd := capd) (id := k) (d := d) (o := o) (n := l.length) (l := L) (e := (l.length : Int)) (On.at hs6 1 rfl) (by kernel_rfl) (by first | rfl | omega | simp <;> omega)) (Jai (Jm (H := H5) (s := EN) (t := 22) (ty := 0) (pu := true) (capd := capd) (id := k) (d := d) (o := o) (n := l.length) (l := L) (e := (l.length : Int)) (On.at hs6 1 rfl) (by kernel_rfl) (by first | rfl | omega | simp <;> omega)) (JZ (Jh1 (H := H5) (s := EN) (t := 22) (el := 35) (ty := 0) (pu := true) (id := n1) (d := 0) (o := 0) (n := l.length) (l := l) (capd := false) (n' := l.length) (h := (l.length : Int)) (On.at hs6 2 rfl) (by kernel_rfl) (by kernel_rfl) (by omega) (by first | rfl | omega | simp <;> omega) (by first | rfl | omega | simp <;> omega) (by first | rfl | omega | simp <;> omega))))) (by kernel_rfl)) (by kernel_rfl) ?_
 refine wE ?_
 refine ⟨Or.inr rfl, [.one (rowC n1 0 l.length 0 l.length true)], (by kernel_rfl), ?_⟩
 exact ⟨n1, rfl, (On.pick [0, 1, 2] [] (by kernel_rfl) hs6)⟩
theorem own_nil (R : HP) (H : HH) (hs : On [R] H) : ∃ rs H', Runs pg an 49 [.one (nilC)] H rs H' ∧ ∃ k', rs = [.one (rowC k' 0 ([] : List EN.T).length 0 ([] : List EN.T).length true)] ∧ On [R, pts k' (rowO EN true 0 ([] : List EN.T))] H' := by
 refine Runs.of (fn := Try.f49) Try.func49 rfl (by kernel_rfl) [(0, .y (.one (nilC)))] (by kernel_rfl) ?_
 refine rS0 [(0, .y (.one (nilC)))] (by kernel_rfl) ?_
 obtain ⟨n1, hn1⟩ : ∃ n, n = List.length (H : HH) := ⟨_, rfl⟩
 obtain ⟨zs2, hzs2, hlzs2⟩ : ∃ zs : List EN.T, zs = List.replicate (0 : Int).toNat (((0, (0, ())), (false, ()))) ∧ (zs.length : Int) = 0 := ⟨_, rfl, by first | (simp; done) | (simp; omega) | omega⟩
 refine rSq [(2, .y (.one (rowC n1 0 zs2.length 0 zs2.length false)), (H ++ [rowO EN true 0 zs2]))] [(0, .y (.one (nilC))), (3, .y (.one (rowC n1 0 zs2.length 0 zs2.length false)))] (H ++ [rowO EN true 0 zs2])
   (cast (JZ (Jn1 (H := H) (s := EN) (t := 22) (el := 35) (ty := 0) (by_ := 24) (k := n1) (n' := zs2.length) (pu := true) (z := ((0, (0, ())), (false, ()))) (zs := zs2) (n := 0) (c := 0) hn1 (by kernel_rfl) hzs2 (by kernel_rfl) (by kernel_rfl) (by kernel_rfl) (by kernel_rfl) (by kernel_rfl) (by omega) (by omega) (by omega) (by omega) (by omega))) (by kernel_rfl)) (by kernel_rfl) ?_
 refine wG (On.new' hn1 (rowO EN true 0 zs2) hs) ?_
 intro H3 hs4
 refine rSq [(2, xi 0, (sto H3 n1 (rowO EN true 0 ([] : List EN.T))))] [(0, .y (.one (nilC))), (3, .y (.one (rowC n1 0 zs2.length 0 zs2.length false)))] (sto H3 n1 (rowO EN true 0 ([] : List EN.T)))
   (cast (JZ (Jo1 (H := H3) (s := EN) (t := 22) (u := 22) (el := 35) (ty := 0) (pu := true) (puy := true) (capd := false) (id := n1) (n := 0) (d := 0) (nn := zs2.length) (l := zs2) (lm := ([] : List EN.T)) (y := nilC) (m := 0) rfl (On.at hs4 1 rfl) (slCells_slO (H := H3) (s := EN) (b := false) (nil := true) (capd := true) (l := ([] : List EN.T)) (n := 0) (by first | rfl | omega | (simp only [List.length_nil]; omega) | simp <;> omega)) (by kernel_rfl) (by kernel_rfl) (by kernel_rfl) (by first | rfl | omega | (simp only [List.length_nil]; omega) | simp <;> omega) (by first | rfl | omega | (simp only [List.length_nil]; omega) | simp <;> omega) (by first | rfl | omega | (simp only [List.length_nil]; omega) | simp <;> omega) (by first | rfl | omega | (simp only [List.length_nil]; omega) | simp <;> omega))) (by kernel_rfl)) (by kernel_rfl) ?_
 rw [show zs2.length = ([] : List EN.T).length from by first | rfl | omega | (simp only [List.length_nil]; omega) | simp <;> omega]
 refine wG (On.put (rowO EN true 0 ([] : List EN.T)) hs4 1 rfl) ?_
 intro H5 hs6
 refine rSq [(5, .y (.one (rowC n1 0 ([] : List EN.T).length 0 (([] : List EN.T).length) true)), H5)] [(2, .y (.one (rowC n1 0 ([] : List EN.T).length 0 (([] : List EN.T).length) true)))] H5
   (cast (JZ (Jh1 (H := H5) (s := EN) (t := 22) (el := 35) (ty := 0) (pu := true) (id := n1) (d := 0) (o := 0) (n := (([] : List EN.T).length)) (l := ([] : List EN.T)) (capd := false) (n' := (([] : List EN.T).length)) (h := 0) (On.at hs6 1 rfl) (by kernel_rfl) (by kernel_rfl) (by omega) (by first | rfl | omega | (simp only [List.length_nil]; omega) | simp <;> omega) (by first | rfl | omega | (simp only [List.length_nil]; omega) | simp <;> omega) (by first | rfl | omega | (simp only [List.length_nil]; omega) | simp <;> omega))) (by kernel_rfl)) (by kernel_rfl) ?_
 refine wE ?_
 refine ⟨Or.inr rfl, [.one (rowC n1 0 ([] : List EN.T).length 0 (([] : List EN.T).length) true)], (by kernel_rfl), ?_⟩
 exact ⟨n1, rfl, (On.pick [0, 1] [] (by kernel_rfl) hs6)⟩
theorem new_ok (R : HP) (H : HH) (room : Int) (hs : On [R] H) (h1 : 1 ≤ room) (h2 : room ≤ 65536) : ∃ rs H', Runs pg an 51 [.one (vi room)] H rs H' ∧ ∃ q, rs = [.one (.ptr q 0), .one (vi 0)] ∧ On [R, ringP EN q room ([] : List EN.T)] H' := by
 refine Runs.of (fn := Try.f51) Try.func51 rfl (by kernel_rfl) [(0, xi room)] (by kernel_rfl) ?_
 refine rS0 [(0, xi room)] (by kernel_rfl) ?_
 refine wS ?_
 refine rSq [(1, xb false, H), (4, xb false, H)] [(0, xi room), (9, xb false)] H
   (cast (Jai (Je (H := H) (t := 3) (u := 3) (a := room) (b := 1) (by omega)) (JZ (Jk (H := H) (t := 3) (u := 3) (a := room) (b := 65536) (by omega)))) (by kernel_rfl)) (by kernel_rfl) ?_
 refine wFk ?_
 obtain ⟨n1, hn1⟩ : ∃ n, n = List.length (H : HH) := ⟨_, rfl⟩
 refine rSq [(2, yp n1, (H ++ [.obj [vi room, nilC]]))] [(2, yp n1), (3, xi 0)] (H ++ [.obj [vi room, nilC]])
   (cast (JZ (Ji (H := H) (t := 88) (ty := 0) (n := n1) (v := .agg [vi room, nilC]) (cs := [vi room, nilC]) hn1 (by kernel_rfl) (by kernel_rfl) (by kernel_rfl))) (by kernel_rfl)) (by kernel_rfl) ?_
 refine wG (On.new' hn1 (.obj [vi room, nilC]) hs) ?_
 intro H2 hs3
 refine wE ?_
 refine ⟨Or.inr rfl, [.one (.ptr n1 0), .one (vi 0)], (by kernel_rfl), ?_⟩
 have hs4 : On [R, ringP EN n1 room ([] : List EN.T)] H2 := On.shut (cs := [R, pts n1 (.obj [vi room, nilC])]) [1] [0] (by kernel_rfl) (fun _ x => ring_nil' (rfl) ⟨by omega, by omega⟩ x) hs3
 exact ⟨n1, rfl, (On.pick [0, 1] [] (by kernel_rfl) hs4)⟩
theorem len_ok (R : HP) (H : HH) (q : Nat) (room : Int) (l : List EN.T) (hs : On [R, ringP EN q room l] H) : ∃ rs H', Runs pg an 42 [.one (.ptr q 0)] H rs H' ∧ rs = [.one (vi (l.length))] ∧ On [R, ringP EN q room l] H' := by
 obtain ⟨⟨hb3a, hb3b, hb3c⟩, ⟨hl4, hs1⟩ | ⟨k5, d6, L7, o8, cd9, ho10, hc11, hl12, hs2⟩⟩ := ring_open hs 1 rfl
 ·
  have hl4n : (l.length : Int) = 0 := by rw [hl4]; rfl
  refine Runs.of (fn := Try.f42) Try.func42 rfl (by kernel_rfl) [(0, yp q)] (by kernel_rfl) ?_
  refine rS0 [(0, yp q)] (by kernel_rfl) ?_
  refine wS ?_
  have hcall13 : Runs pg an 48 [.one (.ptr q 0)] H [.one (vb true)] H := by
   refine runs_of ?_
   refine Runs.of (fn := Try.f48) Try.func48 rfl (by kernel_rfl) [(0, yp q)] (by kernel_rfl) ?_
   refine rS0 [(0, yp q)] (by kernel_rfl) ?_
   refine rSq [(6, xi room, H), (7, xb true, H)] [(2, xb true)] H
     (cast (Jai (Ja (t := 3) (off := 0) (v := .one (vi room)) (On.at hs1 1 rfl) (by kernel_rfl)) (JZ (Jd (H := H) (t := 3) (u := 3) (a := room) (b := 0) (by omega)))) (by kernel_rfl)) (by kernel_rfl) ?_
   refine wE ?_
   exact ⟨Or.inr rfl, [.one (vb true)], (by kernel_rfl), ⟨rfl, rfl⟩⟩
  refine rSq [(1, xb true, H)] [(0, yp q), (5, xb false)] H
    (cast (JZ (Jb hcall13 (by kernel_rfl))) (by kernel_rfl)) (by kernel_rfl) ?_
  refine wFk ?_
  refine rSq [(3, .y (.one (nilC)), H)] [(2, xi 0)] H
    (cast (JZ (Ja (t := 22) (off := 1) (v := .one (nilC)) (On.at hs1 1 rfl) (by kernel_rfl))) (by kernel_rfl)) (by kernel_rfl) ?_
  refine wE ?_
  refine ⟨Or.inr rfl, [.one (vi 0)], (by kernel_rfl), ?_⟩
  have hs14 : On [R, ringP EN q room l] H := On.shut (cs := [R, pts q (.obj [vi room, nilC])]) [1] [0] (by kernel_rfl) (fun _ x => ring_nil' (hl4) ⟨by omega, by omega⟩ x) hs1
  exact ⟨congrArg (fun z : Int => [Y.one (vi z)]) (by omega), (On.pick [0, 1] [] (by kernel_rfl) hs14)⟩
 ·
  refine Runs.of (fn := Try.f42) Try.func42 rfl (by kernel_rfl) [(0, yp q)] (by kernel_rfl) ?_
  refine rS0 [(0, yp q)] (by kernel_rfl) ?_
  refine wS ?_
  have hcall15 : Runs pg an 48 [.one (.ptr q 0)] H [.one (vb true)] H := by
   refine runs_of ?_
   refine Runs.of (fn := Try.f48) Try.func48 rfl (by kernel_rfl) [(0, yp q)] (by kernel_rfl) ?_
   refine rS0 [(0, yp q)] (by kernel_rfl) ?_
   refine rSq [(6, xi room, H), (7, xb true, H)] [(2, xb true)] H
     (cast (Jai (Ja (t := 3) (off := 0) (v := .one (vi room)) (On.at hs2 1 rfl) (by kernel_rfl)) (JZ (Jd (H := H) (t := 3) (u := 3) (a := room) (b := 0) (by omega)))) (by kernel_rfl)) (by kernel_rfl) ?_
   refine wE ?_
   exact ⟨Or.inr rfl, [.one (vb true)], (by kernel_rfl), ⟨rfl, rfl⟩⟩
  refine rSq [(1, xb true, H)] [(0, yp q), (5, xb false)] H
    (cast (JZ (Jb hcall15 (by kernel_rfl))) (by kernel_rfl)) (by kernel_rfl) ?_
  refine wFk ?_
  refine rSq [(3, .y (.one (rowC k5 d6 L7.length o8 l.length cd9)), H), (4, xi (l.length : Int), H)] [(2, xi (l.length : Int))] H
    (cast (Jai (Ja (t := 22) (off := 1) (v := .one (rowC k5 d6 L7.length o8 l.length cd9)) (On.at hs2 1 rfl) (by kernel_rfl)) (JZ (Jm (H := H) (s := EN) (t := 22) (ty := 0) (pu := true) (capd := cd9) (id := k5) (d := d6) (o := o8) (n := l.length) (l := L7) (e := (l.length : Int)) (On.at hs2 2 rfl) (by kernel_rfl) (by first | rfl | omega | simp <;> omega)))) (by kernel_rfl)) (by kernel_rfl) ?_
  refine wE ?_
  refine ⟨Or.inr rfl, [.one (vi (l.length : Int))], (by kernel_rfl), ?_⟩
  have hs16 : On [R, ringP EN q room l] H := On.shut (cs := [R, pts q (.obj [vi room, rowC k5 d6 L7.length o8 l.length cd9]), pts k5 (rowO EN true d6 L7)]) [1, 2] [0] (by kernel_rfl) (fun _ x => ring_row ⟨by omega, by omega, by first | rfl | omega | simp <;> omega⟩ (by first | rfl | omega | simp <;> omega) (by first | rfl | omega | simp <;> omega) (fun h => by have := hc11 h; first | rfl | omega | simp <;> omega) (hl12) x) hs2
  exact ⟨congrArg (fun z : Int => [Y.one (vi z)]) (by omega), (On.pick [0, 1] [] (by kernel_rfl) hs16)⟩
theorem items_ok (R : HP) (H : HH) (q : Nat) (room : Int) (l : List EN.T) (hs : On [R, ringP EN q room l] H) : ∃ rs H', Runs pg an 35 [.one (.ptr q 0)] H rs H' ∧ ∃ k', rs = [.one (rft k' l)] ∧ On [R, ringP EN q room l, pts k' (rowO EN true 0 l)] H' := by
 obtain ⟨⟨hb3a, hb3b, hb3c⟩, ⟨hl4, hs1⟩ | ⟨k5, d6, L7, o8, cd9, ho10, hc11, hl12, hs2⟩⟩ := ring_open hs 1 rfl
 ·
  have hl4n : (l.length : Int) = 0 := by rw [hl4]; rfl
  refine Runs.of (fn := Try.f35) Try.func35 rfl (by kernel_rfl) [(0, yp q)] (by kernel_rfl) ?_
  refine rS0 [(0, yp q)] (by kernel_rfl) ?_
  refine wS ?_
  have hcall13 : Runs pg an 48 [.one (.ptr q 0)] H [.one (vb true)] H := by
   refine runs_of ?_
   refine Runs.of (fn := Try.f48) Try.func48 rfl (by kernel_rfl) [(0, yp q)] (by kernel_rfl) ?_
   refine rS0 [(0, yp q)] (by kernel_rfl) ?_
   refine rSq [(6, xi room, H), (7, xb true, H)] [(2, xb true)] H
     (cast (Jai (Ja (t := 3) (off := 0) (v := .one (vi room)) (On.at hs1 1 rfl) (by kernel_rfl)) (JZ (Jd (H := H) (t := 3) (u := 3) (a := room) (b := 0) (by omega)))) (by kernel_rfl)) (by kernel_rfl) ?_
   refine wE ?_
   exact ⟨Or.inr rfl, [.one (vb true)], (by kernel_rfl), ⟨rfl, rfl⟩⟩
  refine rSq [(1, xb true, H)] [(0, yp q), (5, xb false)] H
    (cast (JZ (Jb hcall13 (by kernel_rfl))) (by kernel_rfl)) (by kernel_rfl) ?_
  refine wFk ?_
  obtain ⟨_, H15, hr16, k14, rfl, hs17⟩ := own_nil _ (H : HH) (On.call [] [0, 1] (by kernel_rfl) hs1)
  have hs17 : On [R, pts q (.obj [vi room, nilC]), pts k14 (rowO EN true 0 ([] : List EN.T))] H15 := On.flat hs17
  refine rSq [(3, .y (.one (nilC)), H), (4, .y (.one (rowC k14 0 ([] : List EN.T).length 0 (([] : List EN.T).length) true)), H15)] [(2, .y (.one (rowC k14 0 ([] : List EN.T).length 0 (([] : List EN.T).length) true)))] H15
    (cast (Jai (Ja (t := 22) (off := 1) (v := .one (nilC)) (On.at hs1 1 rfl) (by kernel_rfl)) (JZ (Jb hr16 (by kernel_rfl)))) (by kernel_rfl)) (by kernel_rfl) ?_
  refine wG hs17 ?_
  intro H18 hs19
  refine wE ?_
  refine ⟨Or.inr rfl, [.one (rowC k14 0 ([] : List EN.T).length 0 (([] : List EN.T).length) true)], (by kernel_rfl), ?_⟩
  have hs20 : On [R, pts k14 (rowO EN true 0 ([] : List EN.T)), ringP EN q room l] H18 := On.shut (cs := [R, pts q (.obj [vi room, nilC]), pts k14 (rowO EN true 0 ([] : List EN.T))]) [1] [0, 2] (by kernel_rfl) (fun _ x => ring_nil' (hl4) ⟨by omega, by omega⟩ x) hs19
  have hs21 := (On.pick [0, 2, 1] [] (by kernel_rfl) hs20)
  exact ⟨k14, congrArg (fun z : List EN.T => [Y.one (rft k14 z)]) (Eq.symm hl4), Eq.mp (congrArg (fun z : List EN.T => On [R, ringP EN q room l, pts k14 (rowO EN true 0 z)] _) (Eq.symm hl4)) hs21⟩
 ·
  refine Runs.of (fn := Try.f35) Try.func35 rfl (by kernel_rfl) [(0, yp q)] (by kernel_rfl) ?_
  refine rS0 [(0, yp q)] (by kernel_rfl) ?_
  refine wS ?_
  have hcall22 : Runs pg an 48 [.one (.ptr q 0)] H [.one (vb true)] H := by
   refine runs_of ?_
   refine Runs.of (fn := Try.f48) Try.func48 rfl (by kernel_rfl) [(0, yp q)] (by kernel_rfl) ?_
   refine rS0 [(0, yp q)] (by kernel_rfl) ?_
   refine rSq [(6, xi room, H), (7, xb true, H)] [(2, xb true)] H
     (cast (Jai (Ja (t := 3) (off := 0) (v := .one (vi room)) (On.at hs2 1 rfl) (by kernel_rfl)) (JZ (Jd (H := H) (t := 3) (u := 3) (a := room) (b := 0) (by omega)))) (by kernel_rfl)) (by kernel_rfl) ?_
   refine wE ?_
   exact ⟨Or.inr rfl, [.one (vb true)], (by kernel_rfl), ⟨rfl, rfl⟩⟩
  refine rSq [(1, xb true, H)] [(0, yp q), (5, xb false)] H
    (cast (JZ (Jb hcall22 (by kernel_rfl))) (by kernel_rfl)) (by kernel_rfl) ?_
  refine wFk ?_
  obtain ⟨_, H24, hr25, k23, rfl, hs26⟩ := own_row _ (H : HH) (On.call [2] [0, 1] (by kernel_rfl) hs2) (k := k5) (d := d6) (o := o8) (capd := cd9) (L := L7) (l := l) (by first | rfl | omega | simp <;> omega) (hl12) (by first | rfl | omega | simp <;> omega)
  have hs26 : On [R, pts q (.obj [vi room, rowC k5 d6 L7.length o8 l.length cd9]), pts k5 (rowO EN true d6 L7), pts k23 (rowO EN true 0 l)] H24 := On.flat hs26
  refine rSq [(3, .y (.one (rowC k5 d6 L7.length o8 l.length cd9)), H), (4, .y (.one (rft k23 l)), H24)] [(2, .y (.one (rft k23 l)))] H24
    (cast (Jai (Ja (t := 22) (off := 1) (v := .one (rowC k5 d6 L7.length o8 l.length cd9)) (On.at hs2 1 rfl) (by kernel_rfl)) (JZ (Jb hr25 (by kernel_rfl)))) (by kernel_rfl)) (by kernel_rfl) ?_
  refine wG hs26 ?_
  intro H27 hs28
  refine wE ?_
  refine ⟨Or.inr rfl, [.one (rft k23 l)], (by kernel_rfl), ?_⟩
  have hs29 : On [R, pts k23 (rowO EN true 0 l), ringP EN q room l] H27 := On.shut (cs := [R, pts q (.obj [vi room, rowC k5 d6 L7.length o8 l.length cd9]), pts k5 (rowO EN true d6 L7), pts k23 (rowO EN true 0 l)]) [1, 2] [0, 3] (by kernel_rfl) (fun _ x => ring_row ⟨by omega, by omega, by first | rfl | omega | simp <;> omega⟩ (by first | rfl | omega | simp <;> omega) (by first | rfl | omega | simp <;> omega) (fun h => by have := hc11 h; first | rfl | omega | simp <;> omega) (hl12) x) hs28
  have hs30 := (On.pick [0, 2, 1] [] (by kernel_rfl) hs29)
  exact ⟨k23, rfl, hs30⟩
theorem copy_ok (R : HP) (H : HH) (q : Nat) (room : Int) (l : List EN.T) (hs : On [R, ringP EN q room l] H) : ∃ rs H', Runs pg an 41 [.one (.ptr q 0)] H rs H' ∧ ∃ q', rs = [.one (.ptr q' 0)] ∧ On [R, ringP EN q room l, ringP EN q' room l] H' := by
 obtain ⟨⟨hb3a, hb3b, hb3c⟩, ⟨hl4, hs1⟩ | ⟨k5, d6, L7, o8, cd9, ho10, hc11, hl12, hs2⟩⟩ := ring_open hs 1 rfl
 ·
  have hl4n : (l.length : Int) = 0 := by rw [hl4]; rfl
  refine Runs.of (fn := Try.f41) Try.func41 rfl (by kernel_rfl) [(0, yp q)] (by kernel_rfl) ?_
  refine rS0 [(0, yp q)] (by kernel_rfl) ?_
  refine wS ?_
  have hcall13 : Runs pg an 48 [.one (.ptr q 0)] H [.one (vb true)] H := by
   refine runs_of ?_
   refine Runs.of (fn := Try.f48) Try.func48 rfl (by kernel_rfl) [(0, yp q)] (by kernel_rfl) ?_
   refine rS0 [(0, yp q)] (by kernel_rfl) ?_
   refine rSq [(6, xi room, H), (7, xb true, H)] [(2, xb true)] H
     (cast (Jai (Ja (t := 3) (off := 0) (v := .one (vi room)) (On.at hs1 1 rfl) (by kernel_rfl)) (JZ (Jd (H := H) (t := 3) (u := 3) (a := room) (b := 0) (by omega)))) (by kernel_rfl)) (by kernel_rfl) ?_
   refine wE ?_
   exact ⟨Or.inr rfl, [.one (vb true)], (by kernel_rfl), ⟨rfl, rfl⟩⟩
  refine rSq [(1, xb true, H)] [(0, yp q), (5, xb false)] H
    (cast (JZ (Jb hcall13 (by kernel_rfl))) (by kernel_rfl)) (by kernel_rfl) ?_
  refine wFk ?_
  obtain ⟨_, H15, hr16, k14, rfl, hs17⟩ := own_nil _ ((hideH [q] H) : HH) (On.call [] [0, 1] (by kernel_rfl) (On.hide1 hs1 1 rfl))
  have hs17 : On [R, pts q (.map (.fro [vi room, nilC])), pts k14 (rowO EN true 0 ([] : List EN.T))] H15 := On.flat hs17
  obtain ⟨n18, hn18⟩ : ∃ n, n = List.length ((backH [q] H H15) : HH) := ⟨_, rfl⟩
  refine rSq [(3, xi room, H), (7, .y (.one (nilC)), H), (8, .y (.one (rowC k14 0 ([] : List EN.T).length 0 (([] : List EN.T).length) true)), (backH [q] H H15)), (10, yp n18, ((backH [q] H H15) ++ [.obj [vi room, rowC k14 0 ([] : List EN.T).length 0 (([] : List EN.T).length) true]]))] [(2, yp n18)] ((backH [q] H H15) ++ [.obj [vi room, rowC k14 0 ([] : List EN.T).length 0 (([] : List EN.T).length) true]])
    (cast (Jai (ob_ins (H := H) (Ja (t := 3) (off := 0) (v := .one (vi room)) (onlyH_at (M := [q]) (by simp) (On.at hs1 1 rfl)) (by kernel_rfl))) (Jai (Ja (t := 22) (off := 1) (v := .one (nilC)) (On.at hs1 1 rfl) (by kernel_rfl)) (Jai (ob_out (M := [q]) (H := H) (H' := H15) (H2 := (backH [q] H H15)) (mayHide1 (On.at hs1 1 rfl) rfl) (Jb hr16 (by kernel_rfl)) rfl) (JZ (Ji (H := (backH [q] H H15)) (t := 88) (ty := 0) (n := n18) (v := .agg [vi room, rowC k14 0 ([] : List EN.T).length 0 (([] : List EN.T).length) true]) (cs := [vi room, rowC k14 0 ([] : List EN.T).length 0 (([] : List EN.T).length) true]) hn18 (by kernel_rfl) (by kernel_rfl) (by kernel_rfl)))))) (by kernel_rfl)) (by kernel_rfl) ?_
  refine wG (On.new' hn18 (.obj [vi room, rowC k14 0 ([] : List EN.T).length 0 (([] : List EN.T).length) true]) (On.back1 hs17 1 rfl (On.at hs1 1 rfl))) ?_
  intro H19 hs20
  refine wE ?_
  refine ⟨Or.inr rfl, [.one (.ptr n18 0)], (by kernel_rfl), ?_⟩
  have hs21 : On [R, pts k14 (rowO EN true 0 ([] : List EN.T)), pts n18 (.obj [vi room, rowC k14 0 ([] : List EN.T).length 0 (([] : List EN.T).length) true]), ringP EN q room l] H19 := On.shut (cs := [R, pts q (.obj [vi room, nilC]), pts k14 (rowO EN true 0 ([] : List EN.T)), pts n18 (.obj [vi room, rowC k14 0 ([] : List EN.T).length 0 (([] : List EN.T).length) true])]) [1] [0, 2, 3] (by kernel_rfl) (fun _ x => ring_nil' (hl4) ⟨by omega, by omega⟩ x) hs20
  have hs22 : On [R, ringP EN q room l, ringP EN n18 room l] H19 := On.shut (cs := [R, pts k14 (rowO EN true 0 ([] : List EN.T)), pts n18 (.obj [vi room, rowC k14 0 ([] : List EN.T).length 0 (([] : List EN.T).length) true]), ringP EN q room l]) [2, 1] [0, 3] (by kernel_rfl) (fun _ x => ring_row ⟨by omega, by omega, by first | rfl | omega | (simp only [List.length_nil]; omega) | simp <;> omega⟩ (by first | rfl | omega | (simp only [List.length_nil]; omega) | simp <;> omega) (by first | rfl | omega | (simp only [List.length_nil]; omega) | simp <;> omega) (fun h => by cases h) ((rfl).trans (Eq.symm hl4)) x) hs21
  exact ⟨n18, rfl, (On.pick [0, 1, 2] [] (by kernel_rfl) hs22)⟩
 ·
  refine Runs.of (fn := Try.f41) Try.func41 rfl (by kernel_rfl) [(0, yp q)] (by kernel_rfl) ?_
  refine rS0 [(0, yp q)] (by kernel_rfl) ?_
  refine wS ?_
  have hcall23 : Runs pg an 48 [.one (.ptr q 0)] H [.one (vb true)] H := by
   refine runs_of ?_
   refine Runs.of (fn := Try.f48) Try.func48 rfl (by kernel_rfl) [(0, yp q)] (by kernel_rfl) ?_
   refine rS0 [(0, yp q)] (by kernel_rfl) ?_
   refine rSq [(6, xi room, H), (7, xb true, H)] [(2, xb true)] H
     (cast (Jai (Ja (t := 3) (off := 0) (v := .one (vi room)) (On.at hs2 1 rfl) (by kernel_rfl)) (JZ (Jd (H := H) (t := 3) (u := 3) (a := room) (b := 0) (by omega)))) (by kernel_rfl)) (by kernel_rfl) ?_
   refine wE ?_
   exact ⟨Or.inr rfl, [.one (vb true)], (by kernel_rfl), ⟨rfl, rfl⟩⟩
  refine rSq [(1, xb true, H)] [(0, yp q), (5, xb false)] H
    (cast (JZ (Jb hcall23 (by kernel_rfl))) (by kernel_rfl)) (by kernel_rfl) ?_
  refine wFk ?_
  obtain ⟨_, H25, hr26, k24, rfl, hs27⟩ := own_row _ ((hideH [q] H) : HH) (On.call [2] [0, 1] (by kernel_rfl) (On.hide1 hs2 1 rfl)) (k := k5) (d := d6) (o := o8) (capd := cd9) (L := L7) (l := l) (by first | rfl | omega | simp <;> omega) (hl12) (by first | rfl | omega | simp <;> omega)
  have hs27 : On [R, pts q (.map (.fro [vi room, rowC k5 d6 L7.length o8 l.length cd9])), pts k5 (rowO EN true d6 L7), pts k24 (rowO EN true 0 l)] H25 := On.flat hs27
  obtain ⟨n28, hn28⟩ : ∃ n, n = List.length ((backH [q] H H25) : HH) := ⟨_, rfl⟩
  refine rSq [(3, xi room, H), (7, .y (.one (rowC k5 d6 L7.length o8 l.length cd9)), H), (8, .y (.one (rft k24 l)), (backH [q] H H25)), (10, yp n28, ((backH [q] H H25) ++ [.obj [vi room, rft k24 l]]))] [(2, yp n28)] ((backH [q] H H25) ++ [.obj [vi room, rft k24 l]])
    (cast (Jai (ob_ins (H := H) (Ja (t := 3) (off := 0) (v := .one (vi room)) (onlyH_at (M := [q]) (by simp) (On.at hs2 1 rfl)) (by kernel_rfl))) (Jai (Ja (t := 22) (off := 1) (v := .one (rowC k5 d6 L7.length o8 l.length cd9)) (On.at hs2 1 rfl) (by kernel_rfl)) (Jai (ob_out (M := [q]) (H := H) (H' := H25) (H2 := (backH [q] H H25)) (mayHide1 (On.at hs2 1 rfl) (by have g0 := lt_of_get (On.at hs2 2 rfl); simp [O.inH, C.inH, g0])) (Jb hr26 (by kernel_rfl)) rfl) (JZ (Ji (H := (backH [q] H H25)) (t := 88) (ty := 0) (n := n28) (v := .agg [vi room, rft k24 l]) (cs := [vi room, rft k24 l]) hn28 (by kernel_rfl) (by kernel_rfl) (by kernel_rfl)))))) (by kernel_rfl)) (by kernel_rfl) ?_
  refine wG (On.new' hn28 (.obj [vi room, rft k24 l]) (On.back1 hs27 1 rfl (On.at hs2 1 rfl))) ?_
  intro H29 hs30
  refine wE ?_
  refine ⟨Or.inr rfl, [.one (.ptr n28 0)], (by kernel_rfl), ?_⟩
  have hs31 : On [R, pts k24 (rowO EN true 0 l), pts n28 (.obj [vi room, rft k24 l]), ringP EN q room l] H29 := On.shut (cs := [R, pts q (.obj [vi room, rowC k5 d6 L7.length o8 l.length cd9]), pts k5 (rowO EN true d6 L7), pts k24 (rowO EN true 0 l), pts n28 (.obj [vi room, rft k24 l])]) [1, 2] [0, 3, 4] (by kernel_rfl) (fun _ x => ring_row ⟨by omega, by omega, by first | rfl | omega | simp <;> omega⟩ (by first | rfl | omega | simp <;> omega) (by first | rfl | omega | simp <;> omega) (fun h => by have := hc11 h; first | rfl | omega | simp <;> omega) (hl12) x) hs30
  have hs32 : On [R, ringP EN q room l, ringP EN n28 room l] H29 := On.shut (cs := [R, pts k24 (rowO EN true 0 l), pts n28 (.obj [vi room, rft k24 l]), ringP EN q room l]) [2, 1] [0, 3] (by kernel_rfl) (fun _ x => ring_row ⟨by omega, by omega, by first | rfl | omega | simp <;> omega⟩ (by first | rfl | omega | simp <;> omega) (by first | rfl | omega | simp <;> omega) (fun h => by cases h) (dt0 rfl (Nat.le_refl _)) x) hs31
  exact ⟨n28, rfl, (On.pick [0, 1, 2] [] (by kernel_rfl) hs32)⟩
theorem cut_ok (R : HP) (H : HH) (q : Nat) (room : Int) (l : List EN.T) (i : Int) (hs : On [R, ringP EN q room l] H) (h0 : 0 ≤ i) (h1 : i ≤ l.length) : ∃ rs H', Runs pg an 43 [.one (.ptr q 0), .one (vi i)] H rs H' ∧ ∃ k', rs = [.one (rowC k' 0 (l.drop ((l.length : Int) - i).toNat).length 0 (l.drop ((l.length : Int) - i).toNat).length true), .one (vi 0)] ∧ On [R, ringP EN q room (l.take ((l.length : Int) - i).toNat), pts k' (rowO EN true 0 (l.drop ((l.length : Int) - i).toNat))] H' := by
 have hle1 : ((l.take ((l.length : Int) - i).toNat).length : Int) = l.length - i := by rw [List.length_take]; omega
 obtain ⟨⟨hb3a, hb3b, hb3c⟩, ⟨hl4, hs1⟩ | ⟨k5, d6, L7, o8, cd9, ho10, hc11, hl12, hs2⟩⟩ := ring_open hs 1 rfl
 ·
  have hl4n : (l.length : Int) = 0 := by rw [hl4]; rfl
  refine Runs.of (fn := Try.f43) Try.func43 rfl (by kernel_rfl) [(0, yp q), (1, xi i)] (by kernel_rfl) ?_
  refine rS0 [(0, yp q), (1, xi i)] (by kernel_rfl) ?_
  refine wS ?_
  have hcall13 : Runs pg an 48 [.one (.ptr q 0)] H [.one (vb true)] H := by
   refine runs_of ?_
   refine Runs.of (fn := Try.f48) Try.func48 rfl (by kernel_rfl) [(0, yp q)] (by kernel_rfl) ?_
   refine rS0 [(0, yp q)] (by kernel_rfl) ?_
   refine rSq [(6, xi room, H), (7, xb true, H)] [(2, xb true)] H
     (cast (Jai (Ja (t := 3) (off := 0) (v := .one (vi room)) (On.at hs1 1 rfl) (by kernel_rfl)) (JZ (Jd (H := H) (t := 3) (u := 3) (a := room) (b := 0) (by omega)))) (by kernel_rfl)) (by kernel_rfl) ?_
   refine wE ?_
   exact ⟨Or.inr rfl, [.one (vb true)], (by kernel_rfl), ⟨rfl, rfl⟩⟩
  refine rSq [(1, xb true, H), (5, xb false, H)] [(0, yp q), (1, xi i), (14, xb false)] H
    (cast (Jai (Jb hcall13 (by kernel_rfl)) (JZ (Je (H := H) (t := 3) (u := 3) (a := i) (b := 0) (by omega)))) (by kernel_rfl)) (by kernel_rfl) ?_
  refine wFk ?_
  refine rSq [(3, .y (.one (nilC)), H), (6, xi (-i), H)] [(0, yp q), (6, xi (-i))] H
    (cast (Jai (Ja (t := 22) (off := 1) (v := .one (nilC)) (On.at hs1 1 rfl) (by kernel_rfl)) (JZ (Jq (H := H) (t := 3) (u := 3) (a := 0) (b := i) (c := (-i)) (by omega)))) (by kernel_rfl)) (by kernel_rfl) ?_
  refine wS ?_
  refine rSq [(1, xb false, H)] [(0, yp q), (6, xi (-i)), (23, xb false)] H
    (cast (JZ (Je (H := H) (t := 3) (u := 3) (a := (-i)) (b := 0) (by omega))) (by kernel_rfl)) (by kernel_rfl) ?_
  refine wFk ?_
  obtain ⟨_, H15, hr16, k14, rfl, hs17⟩ := own_nil _ (H : HH) (On.call [] [0, 1] (by kernel_rfl) hs1)
  have hs17 : On [R, pts q (.obj [vi room, nilC]), pts k14 (rowO EN true 0 ([] : List EN.T))] H15 := On.flat hs17
  refine rSq [(3, .y (.one (nilC)), H), (5, .y (.one (sv EN false true true ([] : List EN.T))), H), (6, .y (.one (rowC k14 0 ([] : List EN.T).length 0 (([] : List EN.T).length) true)), H15)] [(0, yp q), (6, xi (-i)), (7, .y (.one (rowC k14 0 ([] : List EN.T).length 0 (([] : List EN.T).length) true)))] H15
    (cast (Jai (Ja (t := 22) (off := 1) (v := .one (nilC)) (On.at hs1 1 rfl) (by kernel_rfl)) (Jai (Jc1 (H := H) (s := EN) (t := 22) (el := 35) (ty := 0) (b := false) (nil := true) (capd := true) (l := ([] : List EN.T)) (m := ([] : List EN.T)) (a := (-i)) (by kernel_rfl) (by kernel_rfl) (by first | omega | (simp; done) | (simp; omega)) (by first | omega | (simp; done) | (simp; omega)) (by first | rfl | (apply List.ext_getElem?; intro i; first | (simp only [List.nil_append, List.append_nil, List.drop_zero, Nat.zero_add, List.getElem?_take, List.getElem?_drop, List.getElem?_append, List.length_take, List.length_drop, List.length_append, List.length_nil, List.getElem?_nil, Int.toNat_natCast]; done) | ((try simp only [List.nil_append, List.append_nil, List.drop_zero, Nat.zero_add, List.getElem?_take, List.getElem?_drop, List.getElem?_append, List.length_take, List.length_drop, List.length_append, List.length_nil, List.getElem?_nil, Int.toNat_natCast]); (repeat' split) <;> first | rfl | (congr 1; omega) | (exfalso; omega) | (exact List.getElem?_eq_none (by omega)) | (exact (List.getElem?_eq_none (by omega)).symm))))) (JZ (Jb hr16 (by kernel_rfl))))) (by kernel_rfl)) (by kernel_rfl) ?_
  refine wG hs17 ?_
  intro H18 hs19
  refine rSq [(4, .y (.one (nilC)), H18), (7, .y (.one (sv EN false true true ([] : List EN.T))), H18), (10, .tup [], (sto H18 q (.obj [vi room, sv EN false true true ([] : List EN.T)])))] [(7, .y (.one (rowC k14 0 ([] : List EN.T).length 0 (([] : List EN.T).length) true)))] (sto H18 q (.obj [vi room, sv EN false true true ([] : List EN.T)]))
    (cast (Jai (Ja (t := 22) (off := 1) (v := .one (nilC)) (On.at hs19 1 rfl) (by kernel_rfl)) (Jai (Js1 (H := H18) (s := EN) (t := 22) (el := 35) (ty := 0) (b := false) (nil := true) (capd := true) (l := ([] : List EN.T)) (m := ([] : List EN.T)) (h := (-i)) (by kernel_rfl) (by kernel_rfl) (by first | omega | (simp; done) | (simp; omega)) (by first | omega | (simp; done) | (simp; omega)) (by first | rfl | (apply List.ext_getElem?; intro i; first | (simp only [List.nil_append, List.append_nil, List.drop_zero, Nat.zero_add, List.getElem?_take, List.getElem?_drop, List.getElem?_append, List.length_take, List.length_drop, List.length_append, List.length_nil, List.getElem?_nil, Int.toNat_natCast]; done) | ((try simp only [List.nil_append, List.append_nil, List.drop_zero, Nat.zero_add, List.getElem?_take, List.getElem?_drop, List.getElem?_append, List.length_take, List.length_drop, List.length_append, List.length_nil, List.getElem?_nil, Int.toNat_natCast]); (repeat' split) <;> first | rfl | (congr 1; omega) | (exfalso; omega) | (exact List.getElem?_eq_none (by omega)) | (exact (List.getElem?_eq_none (by omega)).symm))))) (JZ (Jc (t := 22) (off := 1) (v := .one (sv EN false true true ([] : List EN.T))) (On.at hs19 1 rfl) (by kernel_rfl))))) (by kernel_rfl)) (by kernel_rfl) ?_
  refine wG (On.put (.obj [vi room, sv EN false true true ([] : List EN.T)]) hs19 1 rfl) ?_
  intro H20 hs21
  refine rS0 [(4, .y (.one (rowC k14 0 ([] : List EN.T).length 0 (([] : List EN.T).length) true))), (5, xi 0)] (by kernel_rfl) ?_
  refine wE ?_
  refine ⟨Or.inr rfl, [.one (rowC k14 0 ([] : List EN.T).length 0 (([] : List EN.T).length) true), .one (vi 0)], (by kernel_rfl), ?_⟩
  have e0 : (l.take ((l.length : Int) - i).toNat) = [] := by rw [hl4]; simp
  have hs22 : On [R, pts k14 (rowO EN true 0 ([] : List EN.T)), ringP EN q room (l.take ((l.length : Int) - i).toNat)] H20 := On.shut (cs := [R, pts q (.obj [vi room, sv EN false true true ([] : List EN.T)]), pts k14 (rowO EN true 0 ([] : List EN.T))]) [1] [0, 2] (by kernel_rfl) (fun _ x => ring_nil' (e0) ⟨by omega, by omega⟩ x) hs21
  have e1 : ([] : List EN.T) = (l.drop ((l.length : Int) - i).toNat) := by rw [hl4]; simp
  have hs23 := (On.pick [0, 2, 1] [] (by kernel_rfl) hs22)
  exact ⟨k14, congrArg (fun z : List EN.T => [Y.one (rft k14 z), .one (vi 0)]) e1, Eq.mp (congrArg (fun z : List EN.T => On [R, ringP EN q room (l.take ((l.length : Int) - i).toNat), pts k14 (rowO EN true 0 z)] _) e1) hs23⟩
 ·
  refine Runs.of (fn := Try.f43) Try.func43 rfl (by kernel_rfl) [(0, yp q), (1, xi i)] (by kernel_rfl) ?_
  refine rS0 [(0, yp q), (1, xi i)] (by kernel_rfl) ?_
  refine wS ?_
  have hcall24 : Runs pg an 48 [.one (.ptr q 0)] H [.one (vb true)] H := by
   refine runs_of ?_
   refine Runs.of (fn := Try.f48) Try.func48 rfl (by kernel_rfl) [(0, yp q)] (by kernel_rfl) ?_
   refine rS0 [(0, yp q)] (by kernel_rfl) ?_
   refine rSq [(6, xi room, H), (7, xb true, H)] [(2, xb true)] H
     (cast (Jai (Ja (t := 3) (off := 0) (v := .one (vi room)) (On.at hs2 1 rfl) (by kernel_rfl)) (JZ (Jd (H := H) (t := 3) (u := 3) (a := room) (b := 0) (by omega)))) (by kernel_rfl)) (by kernel_rfl) ?_
   refine wE ?_
   exact ⟨Or.inr rfl, [.one (vb true)], (by kernel_rfl), ⟨rfl, rfl⟩⟩
  refine rSq [(1, xb true, H), (5, xb false, H)] [(0, yp q), (1, xi i), (14, xb false)] H
    (cast (Jai (Jb hcall24 (by kernel_rfl)) (JZ (Je (H := H) (t := 3) (u := 3) (a := i) (b := 0) (by omega)))) (by kernel_rfl)) (by kernel_rfl) ?_
  refine wFk ?_
  refine rSq [(3, .y (.one (rowC k5 d6 L7.length o8 l.length cd9)), H), (4, xi (l.length : Int), H), (6, xi ((l.length : Int) - i), H)] [(0, yp q), (6, xi ((l.length : Int) - i))] H
    (cast (Jai (Ja (t := 22) (off := 1) (v := .one (rowC k5 d6 L7.length o8 l.length cd9)) (On.at hs2 1 rfl) (by kernel_rfl)) (Jai (Jm (H := H) (s := EN) (t := 22) (ty := 0) (pu := true) (capd := cd9) (id := k5) (d := d6) (o := o8) (n := l.length) (l := L7) (e := (l.length : Int)) (On.at hs2 2 rfl) (by kernel_rfl) (by first | rfl | omega | simp <;> omega)) (JZ (Jq (H := H) (t := 3) (u := 3) (a := (l.length : Int)) (b := i) (c := ((l.length : Int) - i)) (by omega))))) (by kernel_rfl)) (by kernel_rfl) ?_
  refine wS ?_
  refine rSq [(1, xb false, H)] [(0, yp q), (6, xi ((l.length : Int) - i)), (23, xb false)] H
    (cast (JZ (Je (H := H) (t := 3) (u := 3) (a := ((l.length : Int) - i)) (b := 0) (by omega))) (by kernel_rfl)) (by kernel_rfl) ?_
  refine wFk ?_
  have hlfz25 : ((l.drop ((((l.length : Int) - i) : Int).toNat)).length : Int) = i := by { first | rfl | omega | simp <;> omega }
  obtain ⟨_, H28, hr29, k27, rfl, hs30⟩ := own_row _ (H : HH) (On.call [2] [0, 1] (by kernel_rfl) hs2) (k := k5) (d := d6) (o := ((((o8 : Int) + (l.length : Int) - i) : Int).toNat)) (capd := cd9) (L := L7) (l := (l.drop ((((l.length : Int) - i) : Int).toNat))) (by first | rfl | omega | simp <;> omega) ((content_sub (a := ((((l.length : Int) - i) : Int).toNat)) (n' := (l.drop ((((l.length : Int) - i) : Int).toNat)).length) (hl12) (by first | rfl | omega | simp <;> omega) (by first | rfl | omega | simp <;> omega)).trans (dt1 (by first | rfl | omega | simp <;> omega) (by first | rfl | omega | simp <;> omega))) (by first | rfl | omega | simp <;> omega)
  have hs30 : On [R, pts q (.obj [vi room, rowC k5 d6 L7.length o8 l.length cd9]), pts k5 (rowO EN true d6 L7), pts k27 (rowO EN true 0 (l.drop ((((l.length : Int) - i) : Int).toNat)))] H28 := On.flat hs30
  refine rSq [(3, .y (.one (rowC k5 d6 L7.length o8 l.length cd9)), H), (5, .y (.one (rowC k5 d6 L7.length ((((o8 : Int) + (l.length : Int) - i) : Int).toNat) ((l.drop ((((l.length : Int) - i) : Int).toNat)).length) cd9)), H), (6, .y (.one (rowC k27 0 (l.drop ((((l.length : Int) - i) : Int).toNat)).length 0 ((l.drop ((((l.length : Int) - i) : Int).toNat)).length) true)), H28)] [(0, yp q), (6, xi ((l.length : Int) - i)), (7, .y (.one (rowC k27 0 (l.drop ((((l.length : Int) - i) : Int).toNat)).length 0 ((l.drop ((((l.length : Int) - i) : Int).toNat)).length) true)))] H28
    (cast (Jai (Ja (t := 22) (off := 1) (v := .one (rowC k5 d6 L7.length o8 l.length cd9)) (On.at hs2 1 rfl) (by kernel_rfl)) (Jai (Jt1 (H := H) (s := EN) (t := 22) (el := 35) (ty := 0) (pu := true) (id := k5) (d := d6) (o := o8) (n := l.length) (l := L7) (capd := cd9) (o' := ((((o8 : Int) + (l.length : Int) - i) : Int).toNat)) (n' := ((l.drop ((((l.length : Int) - i) : Int).toNat)).length)) (a := ((l.length : Int) - i)) (On.at hs2 2 rfl) (by kernel_rfl) (by kernel_rfl) (by omega) (by first | rfl | omega | simp <;> omega) (by first | rfl | omega | simp <;> omega) (by first | rfl | omega | simp <;> omega) (by first | rfl | omega | simp <;> omega)) (JZ (Jb hr29 (by kernel_rfl))))) (by kernel_rfl)) (by kernel_rfl) ?_
  refine wG hs30 ?_
  intro H32 hs33
  have hlfz34 : ((l.take ((((l.length : Int) - i) : Int).toNat)).length : Int) = ((l.length : Int) - i) := by { first | rfl | omega | simp <;> omega }
  refine rSq [(4, .y (.one (rowC k5 d6 L7.length o8 l.length cd9)), H32), (7, .y (.one (rowC k5 d6 L7.length o8 ((l.take ((((l.length : Int) - i) : Int).toNat)).length) true)), H32), (10, .tup [], (sto H32 q (.obj [vi room, rowC k5 d6 L7.length o8 ((l.take ((((l.length : Int) - i) : Int).toNat)).length) true])))] [(7, .y (.one (rowC k27 0 (l.drop ((((l.length : Int) - i) : Int).toNat)).length 0 ((l.drop ((((l.length : Int) - i) : Int).toNat)).length) true)))] (sto H32 q (.obj [vi room, rowC k5 d6 L7.length o8 ((l.take ((((l.length : Int) - i) : Int).toNat)).length) true]))
    (cast (Jai (Ja (t := 22) (off := 1) (v := .one (rowC k5 d6 L7.length o8 l.length cd9)) (On.at hs33 1 rfl) (by kernel_rfl)) (Jai (Jh1 (H := H32) (s := EN) (t := 22) (el := 35) (ty := 0) (pu := true) (id := k5) (d := d6) (o := o8) (n := l.length) (l := L7) (capd := cd9) (n' := ((l.take ((((l.length : Int) - i) : Int).toNat)).length)) (h := ((l.length : Int) - i)) (On.at hs33 2 rfl) (by kernel_rfl) (by kernel_rfl) (by omega) (by first | rfl | omega | simp <;> omega) (by first | rfl | omega | simp <;> omega) (by first | rfl | omega | simp <;> omega)) (JZ (Jc (t := 22) (off := 1) (v := .one (rowC k5 d6 L7.length o8 ((l.take ((((l.length : Int) - i) : Int).toNat)).length) true)) (On.at hs33 1 rfl) (by kernel_rfl))))) (by kernel_rfl)) (by kernel_rfl) ?_
  refine wG (On.put (.obj [vi room, rowC k5 d6 L7.length o8 ((l.take ((((l.length : Int) - i) : Int).toNat)).length) true]) hs33 1 rfl) ?_
  intro H36 hs37
  refine rS0 [(4, .y (.one (rowC k27 0 (l.drop ((((l.length : Int) - i) : Int).toNat)).length 0 ((l.drop ((((l.length : Int) - i) : Int).toNat)).length) true))), (5, xi 0)] (by kernel_rfl) ?_
  refine wE ?_
  refine ⟨Or.inr rfl, [.one (rowC k27 0 (l.drop ((((l.length : Int) - i) : Int).toNat)).length 0 ((l.drop ((((l.length : Int) - i) : Int).toNat)).length) true), .one (vi 0)], (by kernel_rfl), ?_⟩
  have hs38 : On [R, pts k27 (rowO EN true 0 (l.drop ((((l.length : Int) - i) : Int).toNat))), ringP EN q room (l.take ((l.length : Int) - i).toNat)] H36 := On.shut (cs := [R, pts q (.obj [vi room, rowC k5 d6 L7.length o8 ((l.take ((((l.length : Int) - i) : Int).toNat)).length) true]), pts k5 (rowO EN true d6 L7), pts k27 (rowO EN true 0 (l.drop ((((l.length : Int) - i) : Int).toNat)))]) [1, 2] [0, 3] (by kernel_rfl) (fun _ x => ring_row ⟨by omega, by omega, by first | rfl | omega | simp <;> omega⟩ (by first | rfl | omega | simp <;> omega) (by first | rfl | omega | simp <;> omega) (fun h => by cases h) (((content_sub (a := 0) (n' := (l.take ((((l.length : Int) - i) : Int).toNat)).length) (hl12) (by first | rfl | omega | simp <;> omega) (by first | rfl | omega | simp <;> omega)).trans (take_len (by first | rfl | omega | simp <;> omega))).trans (show (l.take ((((l.length : Int) - i) : Int).toNat)) = (l.take ((l.length : Int) - i).toNat) from by first | rfl | (simp; done) | omega | (simp [*]; done) | (exact (List.take_of_length_le (by omega)).symm) | (rw [List.take_of_length_le (by omega)]) | first | rfl | (apply List.ext_getElem?; intro i; first | (simp only [List.nil_append, List.append_nil, List.drop_zero, Nat.zero_add, List.getElem?_take, List.getElem?_drop, List.getElem?_append, List.length_take, List.length_drop, List.length_append, List.length_nil, List.getElem?_nil, Int.toNat_natCast]; done) | ((try simp only [List.nil_append, List.append_nil, List.drop_zero, Nat.zero_add, List.getElem?_take, List.getElem?_drop, List.getElem?_append, List.length_take, List.length_drop, List.length_append, List.length_nil, List.getElem?_nil, Int.toNat_natCast]); (repeat' split) <;> first | rfl | (congr 1; omega) | (exfalso; omega) | (exact List.getElem?_eq_none (by omega)) | (exact (List.getElem?_eq_none (by omega)).symm))))) x) hs37
  have e1 : (l.drop ((((l.length : Int) - i) : Int).toNat)) = (l.drop ((l.length : Int) - i).toNat) := by first | rfl | (simp; done) | omega | (simp [*]; done) | (exact (List.take_of_length_le (by omega)).symm) | (rw [List.take_of_length_le (by omega)]) | first | rfl | (apply List.ext_getElem?; intro i; first | (simp only [List.nil_append, List.append_nil, List.drop_zero, Nat.zero_add, List.getElem?_take, List.getElem?_drop, List.getElem?_append, List.length_take, List.length_drop, List.length_append, List.length_nil, List.getElem?_nil, Int.toNat_natCast]; done) | ((try simp only [List.nil_append, List.append_nil, List.drop_zero, Nat.zero_add, List.getElem?_take, List.getElem?_drop, List.getElem?_append, List.length_take, List.length_drop, List.length_append, List.length_nil, List.getElem?_nil, Int.toNat_natCast]); (repeat' split) <;> first | rfl | (congr 1; omega) | (exfalso; omega) | (exact List.getElem?_eq_none (by omega)) | (exact (List.getElem?_eq_none (by omega)).symm)))
  have hs39 := (On.pick [0, 2, 1] [] (by kernel_rfl) hs38)
  exact ⟨k27, congrArg (fun z : List EN.T => [Y.one (rft k27 z), .one (vi 0)]) e1, Eq.mp (congrArg (fun z : List EN.T => On [R, ringP EN q room (l.take ((l.length : Int) - i).toNat), pts k27 (rowO EN true 0 z)] _) e1) hs39⟩
theorem join_ok_s (R : HP) (H : HH) (q : Nat) (room : Int) (l : List EN.T) (b nil cp : Bool) (m : List EN.T) (hs : On [R, ringP EN q room l] H) (h1 : (l.length : Int) + m.length ≤ room) : ∃ rs H', Runs pg an 45 [.one (.ptr q 0), .one (sv EN b nil cp m)] H rs H' ∧ rs = [.one (vi 0)] ∧ On [R, ringP EN q room (l ++ m)] H' := by
 have hle1 : ((l ++ m).length : Int) = l.length + m.length := by rw [List.length_append]; omega
 refine Runs.of (fn := Try.f45) Try.func45 rfl (by kernel_rfl) [(0, yp q), (1, .y (.one (sv EN b nil cp m)))] (by kernel_rfl) ?_
 refine rS0 [(0, yp q), (1, .y (.one (sv EN b nil cp m)))] (by kernel_rfl) ?_
 refine wS ?_
 obtain ⟨⟨hb4a, hb4b, hb4c⟩, ⟨hl5, hs2⟩ | ⟨k6, d7, L8, o9, cd10, ho11, hc12, hl13, hs3⟩⟩ := ring_open hs 1 rfl
 ·
  have hl5n : (l.length : Int) = 0 := by rw [hl5]; rfl
  have hcall14 : Runs pg an 48 [.one (.ptr q 0)] H [.one (vb true)] H := by
   refine runs_of ?_
   refine Runs.of (fn := Try.f48) Try.func48 rfl (by kernel_rfl) [(0, yp q)] (by kernel_rfl) ?_
   refine rS0 [(0, yp q)] (by kernel_rfl) ?_
   refine rSq [(6, xi room, H), (7, xb true, H)] [(2, xb true)] H
     (cast (Jai (Ja (t := 3) (off := 0) (v := .one (vi room)) (On.at hs2 1 rfl) (by kernel_rfl)) (JZ (Jd (H := H) (t := 3) (u := 3) (a := room) (b := 0) (by omega)))) (by kernel_rfl)) (by kernel_rfl) ?_
   refine wE ?_
   exact ⟨Or.inr rfl, [.one (vb true)], (by kernel_rfl), ⟨rfl, rfl⟩⟩
  refine rSq [(1, xb true, H)] [(0, yp q), (1, .y (.one (sv EN b nil cp m))), (7, xb false)] H
    (cast (JZ (Jb hcall14 (by kernel_rfl))) (by kernel_rfl)) (by kernel_rfl) ?_
  refine wFk ?_
  refine wS ?_
  have hcall15 : Runs pg an 55 [.one (.ptr q 0)] H [.one (vi room)] H := by
   refine runs_of ?_
   refine Runs.of (fn := Try.f55) Try.func55 rfl (by kernel_rfl) [(0, yp q)] (by kernel_rfl) ?_
   refine rS0 [(0, yp q)] (by kernel_rfl) ?_
   refine wS ?_
   have hcall16 : Runs pg an 48 [.one (.ptr q 0)] H [.one (vb true)] H := by
    refine runs_of ?_
    refine Runs.of (fn := Try.f48) Try.func48 rfl (by kernel_rfl) [(0, yp q)] (by kernel_rfl) ?_
    refine rS0 [(0, yp q)] (by kernel_rfl) ?_
    refine rSq [(6, xi room, H), (7, xb true, H)] [(2, xb true)] H
      (cast (Jai (Ja (t := 3) (off := 0) (v := .one (vi room)) (On.at hs2 1 rfl) (by kernel_rfl)) (JZ (Jd (H := H) (t := 3) (u := 3) (a := room) (b := 0) (by omega)))) (by kernel_rfl)) (by kernel_rfl) ?_
    refine wE ?_
    exact ⟨Or.inr rfl, [.one (vb true)], (by kernel_rfl), ⟨rfl, rfl⟩⟩
   refine rSq [(1, xb true, H)] [(0, yp q), (5, xb false)] H
     (cast (JZ (Jb hcall16 (by kernel_rfl))) (by kernel_rfl)) (by kernel_rfl) ?_
   refine wFk ?_
   refine rSq [(3, xi room, H), (7, .y (.one (nilC)), H), (9, xi room, H)] [(2, xi room)] H
     (cast (Jai (Ja (t := 3) (off := 0) (v := .one (vi room)) (On.at hs2 1 rfl) (by kernel_rfl)) (Jai (Ja (t := 22) (off := 1) (v := .one (nilC)) (On.at hs2 1 rfl) (by kernel_rfl)) (JZ (Jq (H := H) (t := 3) (u := 3) (a := room) (b := 0) (c := room) (by omega))))) (by kernel_rfl)) (by kernel_rfl) ?_
   refine wE ?_
   exact ⟨Or.inr rfl, [.one (vi room)], (by kernel_rfl), ⟨rfl, rfl⟩⟩
  refine rSq [(3, xi room, H), (4, xb false, H)] [(0, yp q), (1, .y (.one (sv EN b nil cp m))), (12, xb false)] H
    (cast (Jai (Jb hcall15 (by kernel_rfl)) (JZ (Jk (H := H) (t := 3) (u := 3) (a := (m.length : Int)) (b := room) (by omega)))) (by kernel_rfl)) (by kernel_rfl) ?_
  refine wFk ?_
  by_cases c17 : (0 : Int) < (m.length : Int)
  ·
   obtain ⟨n18, hn18⟩ : ∃ n, n = List.length (H : HH) := ⟨_, rfl⟩
   refine rSq [(4, .y (.one (nilC)), H), (6, .y (.one (rowC n18 0 m.length 0 m.length false)), (H ++ [rowO EN true 0 m])), (9, .tup [], (sto (H ++ [rowO EN true 0 m]) q (.obj [vi room, rowC n18 0 m.length 0 m.length false])))] [] (sto (H ++ [rowO EN true 0 m]) q (.obj [vi room, rowC n18 0 m.length 0 m.length false]))
     (cast (Jai (Ja (t := 22) (off := 1) (v := .one (nilC)) (On.at hs2 1 rfl) (by kernel_rfl)) (Jai (Jb1 (H := H) (s := EN) (t := 22) (u := 22) (el := 35) (by_ := 24) (z := [vi 0, vi 0, vb false]) (ty := 0) (b' := false) (nil' := true) (pu := true) (puy := true) (m := m.length) (n' := m.length) (k := n18) (nl := 0) (l := ([] : List EN.T)) (lm := m) (l' := m) (y := sv EN b nil cp m) hn18 (by first | rfl | omega | (simp only [List.length_nil]; omega) | simp <;> omega) (by kernel_rfl) (slCells_slO (H := H) (s := EN) (b := b) (nil := nil) (capd := cp) (l := m) (n := m.length) (by first | rfl | omega | (simp only [List.length_nil]; omega) | simp <;> omega)) (by kernel_rfl) (by kernel_rfl) (by kernel_rfl) (by kernel_rfl) (by kernel_rfl) (by kernel_rfl) (by kernel_rfl) (by first | rfl | omega | (simp only [List.length_nil]; omega) | simp <;> omega) (by first | rfl | omega | (simp only [List.length_nil]; omega) | simp <;> omega) (by omega) (by omega) (List.nil_append _) (by first | rfl | omega | (simp only [List.length_append, List.length_nil]; omega) | (simp; done) | (simp; omega))) (JZ (Jc (t := 22) (off := 1) (v := .one (rowC n18 0 m.length 0 m.length false)) (On.at (On.new' hn18 (rowO EN true 0 m) hs2) 1 rfl) (by kernel_rfl))))) (by kernel_rfl)) (by kernel_rfl) ?_
   refine wG (On.put (.obj [vi room, rowC n18 0 m.length 0 m.length false]) (On.new' hn18 (rowO EN true 0 m) hs2) 1 rfl) ?_
   intro H19 hs20
   refine rS0 [(4, xi 0)] (by kernel_rfl) ?_
   refine wE ?_
   refine ⟨Or.inr rfl, [.one (vi 0)], (by kernel_rfl), ?_⟩
   have hs21 : On [R, ringP EN q room (l ++ m)] H19 := On.shut (cs := [R, pts q (.obj [vi room, rowC n18 0 m.length 0 m.length false]), pts n18 (rowO EN true 0 m)]) [1, 2] [0] (by kernel_rfl) (fun _ x => ring_row ⟨by omega, by omega, by first | rfl | omega | simp <;> omega⟩ (by first | rfl | omega | simp <;> omega) (by first | rfl | omega | simp <;> omega) (fun _ => by first | rfl | omega | simp <;> omega) ((dt0 rfl (Nat.le_refl _)).trans (by rw [hl5, List.nil_append])) x) hs20
   exact ⟨rfl, (On.pick [0, 1] [] (by kernel_rfl) hs21)⟩
  ·
   refine rSq [(4, .y (.one (nilC)), H), (6, .y (.one (nilC)), H), (9, .tup [], (sto H q (.obj [vi room, nilC])))] [] (sto H q (.obj [vi room, nilC]))
     (cast (Jai (Ja (t := 22) (off := 1) (v := .one (nilC)) (On.at hs2 1 rfl) (by kernel_rfl)) (Jai (Jd1 (H := H) (t := 22) (u := 22) (el := 35) (by_ := 24) (z := [vi 0, vi 0, vb false]) (ty := 0) (sz := 3) (c := nilC) (y := sv EN b nil cp m) (cs := ([] : List EN.T).flatMap (enc EN)) (n := 0) (pu := true) (cs' := m.flatMap (enc EN)) (puy := true) (slCells_slO (H := H) (s := EN) (b := false) (nil := true) (capd := true) (l := ([] : List EN.T)) (n := 0) (by first | rfl | omega | (simp only [List.length_nil]; omega) | simp <;> omega)) (((slCells_slO (H := H) (s := EN) (b := b) (nil := nil) (capd := cp) (l := m) (n := m.length) (by first | rfl | omega | (simp only [List.length_nil]; omega) | simp <;> omega))).trans (by rw [show m.length = 0 from by first | rfl | omega | (simp only [List.length_nil]; omega) | simp <;> omega])) (by kernel_rfl) (by kernel_rfl) (by kernel_rfl) (by kernel_rfl) (by kernel_rfl) (by kernel_rfl)) (JZ (Jc (t := 22) (off := 1) (v := .one (nilC)) (On.at hs2 1 rfl) (by kernel_rfl))))) (by kernel_rfl)) (by kernel_rfl) ?_
   refine wG (On.put (.obj [vi room, nilC]) hs2 1 rfl) ?_
   intro H22 hs23
   refine rS0 [(4, xi 0)] (by kernel_rfl) ?_
   refine wE ?_
   refine ⟨Or.inr rfl, [.one (vi 0)], (by kernel_rfl), ?_⟩
   have hs24 : On [R, ringP EN q room (l ++ m)] H22 := On.shut (cs := [R, pts q (.obj [vi room, nilC])]) [1] [0] (by kernel_rfl) (fun _ x => ring_nil' (by rw [hl5, List.nil_append]; exact List.eq_nil_of_length_eq_zero (by omega)) ⟨by omega, by omega⟩ x) hs23
   exact ⟨rfl, (On.pick [0, 1] [] (by kernel_rfl) hs24)⟩
 ·
  have hcall25 : Runs pg an 48 [.one (.ptr q 0)] H [.one (vb true)] H := by
   refine runs_of ?_
   refine Runs.of (fn := Try.f48) Try.func48 rfl (by kernel_rfl) [(0, yp q)] (by kernel_rfl) ?_
   refine rS0 [(0, yp q)] (by kernel_rfl) ?_
   refine rSq [(6, xi room, H), (7, xb true, H)] [(2, xb true)] H
     (cast (Jai (Ja (t := 3) (off := 0) (v := .one (vi room)) (On.at hs3 1 rfl) (by kernel_rfl)) (JZ (Jd (H := H) (t := 3) (u := 3) (a := room) (b := 0) (by omega)))) (by kernel_rfl)) (by kernel_rfl) ?_
   refine wE ?_
   exact ⟨Or.inr rfl, [.one (vb true)], (by kernel_rfl), ⟨rfl, rfl⟩⟩
  refine rSq [(1, xb true, H)] [(0, yp q), (1, .y (.one (sv EN b nil cp m))), (7, xb false)] H
    (cast (JZ (Jb hcall25 (by kernel_rfl))) (by kernel_rfl)) (by kernel_rfl) ?_
  refine wFk ?_
  refine wS ?_
  have hcall26 : Runs pg an 55 [.one (.ptr q 0)] H [.one (vi (room - (l.length : Int)))] H := by
   refine runs_of ?_
   refine Runs.of (fn := Try.f55) Try.func55 rfl (by kernel_rfl) [(0, yp q)] (by kernel_rfl) ?_
   refine rS0 [(0, yp q)] (by kernel_rfl) ?_
   refine wS ?_
   have hcall27 : Runs pg an 48 [.one (.ptr q 0)] H [.one (vb true)] H := by
    refine runs_of ?_
    refine Runs.of (fn := Try.f48) Try.func48 rfl (by kernel_rfl) [(0, yp q)] (by kernel_rfl) ?_
    refine rS0 [(0, yp q)] (by kernel_rfl) ?_
    refine rSq [(6, xi room, H), (7, xb true, H)] [(2, xb true)] H
      (cast (Jai (Ja (t := 3) (off := 0) (v := .one (vi room)) (On.at hs3 1 rfl) (by kernel_rfl)) (JZ (Jd (H := H) (t := 3) (u := 3) (a := room) (b := 0) (by omega)))) (by kernel_rfl)) (by kernel_rfl) ?_
    refine wE ?_
    exact ⟨Or.inr rfl, [.one (vb true)], (by kernel_rfl), ⟨rfl, rfl⟩⟩
   refine rSq [(1, xb true, H)] [(0, yp q), (5, xb false)] H
     (cast (JZ (Jb hcall27 (by kernel_rfl))) (by kernel_rfl)) (by kernel_rfl) ?_
   refine wFk ?_
   refine rSq [(3, xi room, H), (7, .y (.one (rowC k6 d7 L8.length o9 l.length cd10)), H), (8, xi (l.length : Int), H), (9, xi (room - (l.length : Int)), H)] [(2, xi (room - (l.length : Int)))] H
     (cast (Jai (Ja (t := 3) (off := 0) (v := .one (vi room)) (On.at hs3 1 rfl) (by kernel_rfl)) (Jai (Ja (t := 22) (off := 1) (v := .one (rowC k6 d7 L8.length o9 l.length cd10)) (On.at hs3 1 rfl) (by kernel_rfl)) (Jai (Jm (H := H) (s := EN) (t := 22) (ty := 0) (pu := true) (capd := cd10) (id := k6) (d := d7) (o := o9) (n := l.length) (l := L8) (e := (l.length : Int)) (On.at hs3 2 rfl) (by kernel_rfl) (by first | rfl | omega | simp <;> omega)) (JZ (Jq (H := H) (t := 3) (u := 3) (a := room) (b := (l.length : Int)) (c := (room - (l.length : Int))) (by omega)))))) (by kernel_rfl)) (by kernel_rfl) ?_
   refine wE ?_
   exact ⟨Or.inr rfl, [.one (vi (room - (l.length : Int)))], (by kernel_rfl), ⟨rfl, rfl⟩⟩
  refine rSq [(3, xi (room - (l.length : Int)), H), (4, xb false, H)] [(0, yp q), (1, .y (.one (sv EN b nil cp m))), (12, xb false)] H
    (cast (Jai (Jb hcall26 (by kernel_rfl)) (JZ (Jk (H := H) (t := 3) (u := 3) (a := (m.length : Int)) (b := (room - (l.length : Int))) (by omega)))) (by kernel_rfl)) (by kernel_rfl) ?_
  refine wFk ?_
  by_cases c28 : (0 : Int) < (m.length : Int)
  ·
   rcases Bool.eq_false_or_eq_true cd10 with rfl | rfl
   ·
    obtain ⟨n29, hn29⟩ : ∃ n, n = List.length (H : HH) := ⟨_, rfl⟩
    have hlfz30 : ((l ++ m).length : Int) = ((l.length : Int) + (m.length : Int)) := by { first | rfl | omega | simp <;> omega }
    refine rSq [(4, .y (.one (rowC k6 d7 L8.length o9 l.length true)), H), (6, .y (.one (rowC n29 0 (l ++ m).length 0 ((l ++ m).length) false)), (H ++ [rowO EN true 0 (l ++ m)])), (9, .tup [], (sto (H ++ [rowO EN true 0 (l ++ m)]) q (.obj [vi room, rowC n29 0 (l ++ m).length 0 ((l ++ m).length) false])))] [] (sto (H ++ [rowO EN true 0 (l ++ m)]) q (.obj [vi room, rowC n29 0 (l ++ m).length 0 ((l ++ m).length) false]))
      (cast (Jai (Ja (t := 22) (off := 1) (v := .one (rowC k6 d7 L8.length o9 l.length true)) (On.at hs3 1 rfl) (by kernel_rfl)) (Jai (Ji1 (H := H) (s := EN) (t := 22) (u := 22) (el := 35) (by_ := 24) (z := [vi 0, vi 0, vb false]) (ty := 0) (pu := true) (puy := true) (id := k6) (d := d7) (o := o9) (n := l.length) (m := m.length) (l := L8) (lm := m) (y := sv EN b nil cp m) (n' := (l ++ m).length) (k := n29) (l' := (l ++ m)) hn29 (On.at hs3 2 rfl) (slCells_slO (H := H) (s := EN) (b := b) (nil := nil) (capd := cp) (l := m) (n := m.length) (by first | rfl | omega | simp <;> omega)) (by kernel_rfl) (by kernel_rfl) (by kernel_rfl) (by kernel_rfl) (by kernel_rfl) (by kernel_rfl) (by kernel_rfl) (by first | rfl | omega | simp <;> omega) (by first | rfl | omega | simp <;> omega) (by first | rfl | omega | simp <;> omega) (by omega) (by omega) (congrArg (fun z => z ++ _) (hl13)) (by first | (simp only [List.length_append]; done) | (simp only [List.length_append]; first | omega | (simp; done) | (simp; omega)))) (JZ (Jc (t := 22) (off := 1) (v := .one (rowC n29 0 (l ++ m).length 0 ((l ++ m).length) false)) (On.at (On.new' hn29 (rowO EN true 0 (l ++ m)) hs3) 1 rfl) (by kernel_rfl))))) (by kernel_rfl)) (by kernel_rfl) ?_
    refine wG (On.put (.obj [vi room, rowC n29 0 (l ++ m).length 0 ((l ++ m).length) false]) (On.new' hn29 (rowO EN true 0 (l ++ m)) hs3) 1 rfl) ?_
    intro H32 hs33
    refine rS0 [(4, xi 0)] (by kernel_rfl) ?_
    refine wE ?_
    refine ⟨Or.inr rfl, [.one (vi 0)], (by kernel_rfl), ?_⟩
    have hs34 : On [R, pts k6 (rowO EN true d7 L8), ringP EN q room (l ++ m)] H32 := On.shut (cs := [R, pts q (.obj [vi room, rowC n29 0 (l ++ m).length 0 ((l ++ m).length) false]), pts k6 (rowO EN true d7 L8), pts n29 (rowO EN true 0 (l ++ m))]) [1, 3] [0, 2] (by kernel_rfl) (fun _ x => ring_row ⟨by omega, by omega, by first | rfl | omega | simp <;> omega⟩ (by first | rfl | omega | simp <;> omega) (by first | rfl | omega | simp <;> omega) (fun _ => by first | rfl | omega | simp <;> omega) ((dt0 rfl (Nat.le_refl _)).trans (show (l ++ m) = l ++ m from rfl)) x) hs33
    exact ⟨rfl, (On.pick [0, 2] [1] (by kernel_rfl) hs34)⟩
   ·
    have hc12z := hc12 rfl
    have hlfz35 : ((l ++ m).length : Int) = ((l.length : Int) + (m.length : Int)) := by { first | rfl | omega | simp <;> omega }
    refine rSq [(4, .y (.one (rowC k6 d7 L8.length o9 l.length false)), H), (6, .y (.one (rowC k6 (d7 + o9) (l ++ m).length 0 ((l ++ m).length) false)), (sto H k6 (rowO EN true (d7 + o9) (l ++ m)))), (9, .tup [], (sto (sto H k6 (rowO EN true (d7 + o9) (l ++ m))) q (.obj [vi room, rowC k6 (d7 + o9) (l ++ m).length 0 ((l ++ m).length) false])))] [] (sto (sto H k6 (rowO EN true (d7 + o9) (l ++ m))) q (.obj [vi room, rowC k6 (d7 + o9) (l ++ m).length 0 ((l ++ m).length) false]))
      (cast (Jai (Ja (t := 22) (off := 1) (v := .one (rowC k6 d7 L8.length o9 l.length false)) (On.at hs3 1 rfl) (by kernel_rfl)) (Jai (Jj1 (H := H) (s := EN) (t := 22) (u := 22) (el := 35) (by_ := 24) (z := [vi 0, vi 0, vb false]) (ty := 0) (pu := true) (puy := true) (id := k6) (d := d7) (o := o9) (n := l.length) (m := m.length) (l := L8) (lm := m) (y := sv EN b nil cp m) (d' := (d7 + o9)) (l' := (l ++ m)) (n' := (l ++ m).length) (On.at hs3 2 rfl) (slCells_slO (H := H) (s := EN) (b := b) (nil := nil) (capd := cp) (l := m) (n := m.length) (by first | rfl | omega | simp <;> omega)) (by kernel_rfl) (by kernel_rfl) (by kernel_rfl) (by kernel_rfl) (by kernel_rfl) (by kernel_rfl) (by kernel_rfl) (by first | rfl | omega | simp <;> omega) (by first | rfl | omega | simp <;> omega) (by first | rfl | omega | simp <;> omega) (by omega) (by omega) (by omega) (congrArg (fun z => z ++ m) (show L8.drop o9 = l from (List.take_of_length_le (by rw [List.length_drop]; omega)).symm.trans (hl13))) (by first | (simp only [List.length_append]; done) | (simp only [List.length_append]; first | omega | (simp; done) | (simp; omega)))) (JZ (Jc (t := 22) (off := 1) (v := .one (rowC k6 (d7 + o9) (l ++ m).length 0 ((l ++ m).length) false)) (On.at (On.put (rowO EN true (d7 + o9) (l ++ m)) hs3 2 rfl) 1 rfl) (by kernel_rfl))))) (by kernel_rfl)) (by kernel_rfl) ?_
    refine wG (On.put (.obj [vi room, rowC k6 (d7 + o9) (l ++ m).length 0 ((l ++ m).length) false]) (On.put (rowO EN true (d7 + o9) (l ++ m)) hs3 2 rfl) 1 rfl) ?_
    intro H37 hs38
    refine rS0 [(4, xi 0)] (by kernel_rfl) ?_
    refine wE ?_
    refine ⟨Or.inr rfl, [.one (vi 0)], (by kernel_rfl), ?_⟩
    have hs39 : On [R, ringP EN q room (l ++ m)] H37 := On.shut (cs := [R, pts q (.obj [vi room, rowC k6 (d7 + o9) (l ++ m).length 0 ((l ++ m).length) false]), pts k6 (rowO EN true (d7 + o9) (l ++ m))]) [1, 2] [0] (by kernel_rfl) (fun _ x => ring_row ⟨by omega, by omega, by first | rfl | omega | simp <;> omega⟩ (by first | rfl | omega | simp <;> omega) (by first | rfl | omega | simp <;> omega) (fun _ => by first | rfl | omega | simp <;> omega) ((dt0 rfl (Nat.le_refl _)).trans (show (l ++ m) = l ++ m from rfl)) x) hs38
    exact ⟨rfl, (On.pick [0, 1] [] (by kernel_rfl) hs39)⟩
  ·
   refine rSq [(4, .y (.one (rowC k6 d7 L8.length o9 l.length cd10)), H), (6, .y (.one (rowC k6 d7 L8.length o9 l.length cd10)), H), (9, .tup [], (sto H q (.obj [vi room, rowC k6 d7 L8.length o9 l.length cd10])))] [] (sto H q (.obj [vi room, rowC k6 d7 L8.length o9 l.length cd10]))
     (cast (Jai (Ja (t := 22) (off := 1) (v := .one (rowC k6 d7 L8.length o9 l.length cd10)) (On.at hs3 1 rfl) (by kernel_rfl)) (Jai (Jd1 (H := H) (t := 22) (u := 22) (el := 35) (by_ := 24) (z := [vi 0, vi 0, vb false]) (ty := 0) (sz := 3) (c := rowC k6 d7 L8.length o9 l.length cd10) (y := sv EN b nil cp m) (cs := l.flatMap (enc EN)) (n := l.length) (pu := true) (cs' := m.flatMap (enc EN)) (puy := true) (slCells_rowO (H := H) (s := EN) (pu := true) (capd := cd10) (id := k6) (d := d7) (o := o9) (n := l.length) (l := L8) (m := l) (On.at hs3 2 rfl) (by first | rfl | omega | simp <;> omega) (hl13)) (((slCells_slO (H := H) (s := EN) (b := b) (nil := nil) (capd := cp) (l := m) (n := m.length) (by first | rfl | omega | simp <;> omega))).trans (by rw [show m.length = 0 from by first | rfl | omega | simp <;> omega])) (by kernel_rfl) (by kernel_rfl) (by kernel_rfl) (by kernel_rfl) (by kernel_rfl) (by kernel_rfl)) (JZ (Jc (t := 22) (off := 1) (v := .one (rowC k6 d7 L8.length o9 l.length cd10)) (On.at hs3 1 rfl) (by kernel_rfl))))) (by kernel_rfl)) (by kernel_rfl) ?_
   refine wG (On.put (.obj [vi room, rowC k6 d7 L8.length o9 l.length cd10]) hs3 1 rfl) ?_
   intro H40 hs41
   refine rS0 [(4, xi 0)] (by kernel_rfl) ?_
   refine wE ?_
   refine ⟨Or.inr rfl, [.one (vi 0)], (by kernel_rfl), ?_⟩
   have hs42 : On [R, ringP EN q room (l ++ m)] H40 := On.shut (cs := [R, pts q (.obj [vi room, rowC k6 d7 L8.length o9 l.length cd10]), pts k6 (rowO EN true d7 L8)]) [1, 2] [0] (by kernel_rfl) (fun _ x => ring_row ⟨by omega, by omega, by first | rfl | omega | simp <;> omega⟩ (by first | rfl | omega | simp <;> omega) (by first | rfl | omega | simp <;> omega) (fun h => by have := hc12 h; first | rfl | omega | simp <;> omega) ((hl13).trans (by rw [show m = [] from List.eq_nil_of_length_eq_zero (by omega), List.append_nil])) x) hs41
   exact ⟨rfl, (On.pick [0, 1] [] (by kernel_rfl) hs42)⟩
theorem join_ok_r (R : HP) (H : HH) (q : Nat) (room : Int) (l : List EN.T) (k d o : Nat) (cp : Bool) (L m : List EN.T) (hs : On [R, ringP EN q room l, pts k (rowO EN true d L)] H) (ho : o + m.length ≤ L.length) (hl : (L.drop o).take m.length = m) (h1 : (l.length : Int) + m.length ≤ room) : ∃ rs H', Runs pg an 45 [.one (.ptr q 0), .one (rowC k d L.length o m.length cp)] H rs H' ∧ rs = [.one (vi 0)] ∧ On [R, ringP EN q room (l ++ m), pts k (rowO EN true d L)] H' := by
 have hle1 : ((l ++ m).length : Int) = l.length + m.length := by rw [List.length_append]; omega
 refine Runs.of (fn := Try.f45) Try.func45 rfl (by kernel_rfl) [(0, yp q), (1, .y (.one (rowC k d L.length o m.length cp)))] (by kernel_rfl) ?_
 refine rS0 [(0, yp q), (1, .y (.one (rowC k d L.length o m.length cp)))] (by kernel_rfl) ?_
 refine wS ?_
 obtain ⟨⟨hb4a, hb4b, hb4c⟩, ⟨hl5, hs2⟩ | ⟨k6, d7, L8, o9, cd10, ho11, hc12, hl13, hs3⟩⟩ := ring_open hs 1 rfl
 ·
  have hl5n : (l.length : Int) = 0 := by rw [hl5]; rfl
  have hcall14 : Runs pg an 48 [.one (.ptr q 0)] H [.one (vb true)] H := by
   refine runs_of ?_
   refine Runs.of (fn := Try.f48) Try.func48 rfl (by kernel_rfl) [(0, yp q)] (by kernel_rfl) ?_
   refine rS0 [(0, yp q)] (by kernel_rfl) ?_
   refine rSq [(6, xi room, H), (7, xb true, H)] [(2, xb true)] H
     (cast (Jai (Ja (t := 3) (off := 0) (v := .one (vi room)) (On.at hs2 2 rfl) (by kernel_rfl)) (JZ (Jd (H := H) (t := 3) (u := 3) (a := room) (b := 0) (by omega)))) (by kernel_rfl)) (by kernel_rfl) ?_
   refine wE ?_
   exact ⟨Or.inr rfl, [.one (vb true)], (by kernel_rfl), ⟨rfl, rfl⟩⟩
  refine rSq [(1, xb true, H)] [(0, yp q), (1, .y (.one (rowC k d L.length o m.length cp))), (7, xb false)] H
    (cast (JZ (Jb hcall14 (by kernel_rfl))) (by kernel_rfl)) (by kernel_rfl) ?_
  refine wFk ?_
  refine wS ?_
  have hcall15 : Runs pg an 55 [.one (.ptr q 0)] H [.one (vi room)] H := by
   refine runs_of ?_
   refine Runs.of (fn := Try.f55) Try.func55 rfl (by kernel_rfl) [(0, yp q)] (by kernel_rfl) ?_
   refine rS0 [(0, yp q)] (by kernel_rfl) ?_
   refine wS ?_
   have hcall16 : Runs pg an 48 [.one (.ptr q 0)] H [.one (vb true)] H := by
    refine runs_of ?_
    refine Runs.of (fn := Try.f48) Try.func48 rfl (by kernel_rfl) [(0, yp q)] (by kernel_rfl) ?_
    refine rS0 [(0, yp q)] (by kernel_rfl) ?_
    refine rSq [(6, xi room, H), (7, xb true, H)] [(2, xb true)] H
      (cast (Jai (Ja (t := 3) (off := 0) (v := .one (vi room)) (On.at hs2 2 rfl) (by kernel_rfl)) (JZ (Jd (H := H) (t := 3) (u := 3) (a := room) (b := 0) (by omega)))) (by kernel_rfl)) (by kernel_rfl) ?_
    refine wE ?_
    exact ⟨Or.inr rfl, [.one (vb true)], (by kernel_rfl), ⟨rfl, rfl⟩⟩
   refine rSq [(1, xb true, H)] [(0, yp q), (5, xb false)] H
     (cast (JZ (Jb hcall16 (by kernel_rfl))) (by kernel_rfl)) (by kernel_rfl) ?_
   refine wFk ?_
   refine rSq [(3, xi room, H), (7, .y (.one (nilC)), H), (9, xi room, H)] [(2, xi room)] H
     (cast (Jai (Ja (t := 3) (off := 0) (v := .one (vi room)) (On.at hs2 2 rfl) (by kernel_rfl)) (Jai (Ja (t := 22) (off := 1) (v := .one (nilC)) (On.at hs2 2 rfl) (by kernel_rfl)) (JZ (Jq (H := H) (t := 3) (u := 3) (a := room) (b := 0) (c := room) (by omega))))) (by kernel_rfl)) (by kernel_rfl) ?_
   refine wE ?_
   exact ⟨Or.inr rfl, [.one (vi room)], (by kernel_rfl), ⟨rfl, rfl⟩⟩
  refine rSq [(1, xi (m.length : Int), H), (3, xi room, H), (4, xb false, H)] [(0, yp q), (1, .y (.one (rowC k d L.length o m.length cp))), (12, xb false)] H
    (cast (Jai (Jm (H := H) (s := EN) (t := 22) (ty := 0) (pu := true) (capd := cp) (id := k) (d := d) (o := o) (n := m.length) (l := L) (e := (m.length : Int)) (On.at hs2 1 rfl) (by kernel_rfl) (by first | rfl | omega | simp <;> omega)) (Jai (Jb hcall15 (by kernel_rfl)) (JZ (Jk (H := H) (t := 3) (u := 3) (a := (m.length : Int)) (b := room) (by omega))))) (by kernel_rfl)) (by kernel_rfl) ?_
  refine wFk ?_
  by_cases c17 : (0 : Int) < (m.length : Int)
  ·
   obtain ⟨n18, hn18⟩ : ∃ n, n = List.length (H : HH) := ⟨_, rfl⟩
   refine rSq [(4, .y (.one (nilC)), H), (6, .y (.one (rowC n18 0 m.length 0 m.length false)), (H ++ [rowO EN true 0 m])), (9, .tup [], (sto (H ++ [rowO EN true 0 m]) q (.obj [vi room, rowC n18 0 m.length 0 m.length false])))] [] (sto (H ++ [rowO EN true 0 m]) q (.obj [vi room, rowC n18 0 m.length 0 m.length false]))
     (cast (Jai (Ja (t := 22) (off := 1) (v := .one (nilC)) (On.at hs2 2 rfl) (by kernel_rfl)) (Jai (Jb1 (H := H) (s := EN) (t := 22) (u := 22) (el := 35) (by_ := 24) (z := [vi 0, vi 0, vb false]) (ty := 0) (b' := false) (nil' := true) (pu := true) (puy := true) (m := m.length) (n' := m.length) (k := n18) (nl := 0) (l := ([] : List EN.T)) (lm := m) (l' := m) (y := rowC k d L.length o m.length cp) hn18 (by first | rfl | omega | (simp only [List.length_nil]; omega) | simp <;> omega) (by kernel_rfl) (slCells_rowO (H := H) (s := EN) (pu := true) (capd := cp) (id := k) (d := d) (o := o) (n := m.length) (l := L) (m := m) (On.at hs2 1 rfl) (by first | rfl | omega | (simp only [List.length_nil]; omega) | simp <;> omega) (hl)) (by kernel_rfl) (by kernel_rfl) (by kernel_rfl) (by kernel_rfl) (by kernel_rfl) (by kernel_rfl) (by kernel_rfl) (by first | rfl | omega | (simp only [List.length_nil]; omega) | simp <;> omega) (by first | rfl | omega | (simp only [List.length_nil]; omega) | simp <;> omega) (by omega) (by omega) (List.nil_append _) (by first | rfl | omega | (simp only [List.length_append, List.length_nil]; omega) | (simp; done) | (simp; omega))) (JZ (Jc (t := 22) (off := 1) (v := .one (rowC n18 0 m.length 0 m.length false)) (On.at (On.new' hn18 (rowO EN true 0 m) hs2) 2 rfl) (by kernel_rfl))))) (by kernel_rfl)) (by kernel_rfl) ?_
   refine wG (On.put (.obj [vi room, rowC n18 0 m.length 0 m.length false]) (On.new' hn18 (rowO EN true 0 m) hs2) 2 rfl) ?_
   intro H19 hs20
   refine rS0 [(4, xi 0)] (by kernel_rfl) ?_
   refine wE ?_
   refine ⟨Or.inr rfl, [.one (vi 0)], (by kernel_rfl), ?_⟩
   have hs21 : On [R, pts k (rowO EN true d L), ringP EN q room (l ++ m)] H19 := On.shut (cs := [R, pts k (rowO EN true d L), pts q (.obj [vi room, rowC n18 0 m.length 0 m.length false]), pts n18 (rowO EN true 0 m)]) [2, 3] [0, 1] (by kernel_rfl) (fun _ x => ring_row ⟨by omega, by omega, by first | rfl | omega | simp <;> omega⟩ (by first | rfl | omega | simp <;> omega) (by first | rfl | omega | simp <;> omega) (fun _ => by first | rfl | omega | simp <;> omega) ((dt0 rfl (Nat.le_refl _)).trans (by rw [hl5, List.nil_append])) x) hs20
   exact ⟨rfl, (On.pick [0, 2, 1] [] (by kernel_rfl) hs21)⟩
  ·
   refine rSq [(4, .y (.one (nilC)), H), (6, .y (.one (nilC)), H), (9, .tup [], (sto H q (.obj [vi room, nilC])))] [] (sto H q (.obj [vi room, nilC]))
     (cast (Jai (Ja (t := 22) (off := 1) (v := .one (nilC)) (On.at hs2 2 rfl) (by kernel_rfl)) (Jai (Jd1 (H := H) (t := 22) (u := 22) (el := 35) (by_ := 24) (z := [vi 0, vi 0, vb false]) (ty := 0) (sz := 3) (c := nilC) (y := rowC k d L.length o m.length cp) (cs := ([] : List EN.T).flatMap (enc EN)) (n := 0) (pu := true) (cs' := m.flatMap (enc EN)) (puy := true) (slCells_slO (H := H) (s := EN) (b := false) (nil := true) (capd := true) (l := ([] : List EN.T)) (n := 0) (by first | rfl | omega | (simp only [List.length_nil]; omega) | simp <;> omega)) (((slCells_rowO (H := H) (s := EN) (pu := true) (capd := cp) (id := k) (d := d) (o := o) (n := m.length) (l := L) (m := m) (On.at hs2 1 rfl) (by first | rfl | omega | (simp only [List.length_nil]; omega) | simp <;> omega) (hl))).trans (by rw [show m.length = 0 from by first | rfl | omega | (simp only [List.length_nil]; omega) | simp <;> omega])) (by kernel_rfl) (by kernel_rfl) (by kernel_rfl) (by kernel_rfl) (by kernel_rfl) (by kernel_rfl)) (JZ (Jc (t := 22) (off := 1) (v := .one (nilC)) (On.at hs2 2 rfl) (by kernel_rfl))))) (by kernel_rfl)) (by kernel_rfl) ?_
   refine wG (On.put (.obj [vi room, nilC]) hs2 2 rfl) ?_
   intro H22 hs23
   refine rS0 [(4, xi 0)] (by kernel_rfl) ?_
   refine wE ?_
   refine ⟨Or.inr rfl, [.one (vi 0)], (by kernel_rfl), ?_⟩
   have hs24 : On [R, pts k (rowO EN true d L), ringP EN q room (l ++ m)] H22 := On.shut (cs := [R, pts k (rowO EN true d L), pts q (.obj [vi room, nilC])]) [2] [0, 1] (by kernel_rfl) (fun _ x => ring_nil' (by rw [hl5, List.nil_append]; exact List.eq_nil_of_length_eq_zero (by omega)) ⟨by omega, by omega⟩ x) hs23
   exact ⟨rfl, (On.pick [0, 2, 1] [] (by kernel_rfl) hs24)⟩
 ·
  have hcall25 : Runs pg an 48 [.one (.ptr q 0)] H [.one (vb true)] H := by
   refine runs_of ?_
   refine Runs.of (fn := Try.f48) Try.func48 rfl (by kernel_rfl) [(0, yp q)] (by kernel_rfl) ?_
   refine rS0 [(0, yp q)] (by kernel_rfl) ?_
   refine rSq [(6, xi room, H), (7, xb true, H)] [(2, xb true)] H
     (cast (Jai (Ja (t := 3) (off := 0) (v := .one (vi room)) (On.at hs3 2 rfl) (by kernel_rfl)) (JZ (Jd (H := H) (t := 3) (u := 3) (a := room) (b := 0) (by omega)))) (by kernel_rfl)) (by kernel_rfl) ?_
   refine wE ?_
   exact ⟨Or.inr rfl, [.one (vb true)], (by kernel_rfl), ⟨rfl, rfl⟩⟩
  refine rSq [(1, xb true, H)] [(0, yp q), (1, .y (.one (rowC k d L.length o m.length cp))), (7, xb false)] H
    (cast (JZ (Jb hcall25 (by kernel_rfl))) (by kernel_rfl)) (by kernel_rfl) ?_
  refine wFk ?_
  refine wS ?_
  have hcall26 : Runs pg an 55 [.one (.ptr q 0)] H [.one (vi (room - (l.length : Int)))] H := by
   refine runs_of ?_
   refine Runs.of (fn := Try.f55) Try.func55 rfl (by kernel_rfl) [(0, yp q)] (by kernel_rfl) ?_
   refine rS0 [(0, yp q)] (by kernel_rfl) ?_
   refine wS ?_
   have hcall27 : Runs pg an 48 [.one (.ptr q 0)] H [.one (vb true)] H := by
    refine runs_of ?_
    refine Runs.of (fn := Try.f48) Try.func48 rfl (by kernel_rfl) [(0, yp q)] (by kernel_rfl) ?_
    refine rS0 [(0, yp q)] (by kernel_rfl) ?_
    refine rSq [(6, xi room, H), (7, xb true, H)] [(2, xb true)] H
      (cast (Jai (Ja (t := 3) (off := 0) (v := .one (vi room)) (On.at hs3 2 rfl) (by kernel_rfl)) (JZ (Jd (H := H) (t := 3) (u := 3) (a := room) (b := 0) (by omega)))) (by kernel_rfl)) (by kernel_rfl) ?_
    refine wE ?_
    exact ⟨Or.inr rfl, [.one (vb true)], (by kernel_rfl), ⟨rfl, rfl⟩⟩
   refine rSq [(1, xb true, H)] [(0, yp q), (5, xb false)] H
     (cast (JZ (Jb hcall27 (by kernel_rfl))) (by kernel_rfl)) (by kernel_rfl) ?_
   refine wFk ?_
   refine rSq [(3, xi room, H), (7, .y (.one (rowC k6 d7 L8.length o9 l.length cd10)), H), (8, xi (l.length : Int), H), (9, xi (room - (l.length : Int)), H)] [(2, xi (room - (l.length : Int)))] H
     (cast (Jai (Ja (t := 3) (off := 0) (v := .one (vi room)) (On.at hs3 2 rfl) (by kernel_rfl)) (Jai (Ja (t := 22) (off := 1) (v := .one (rowC k6 d7 L8.length o9 l.length cd10)) (On.at hs3 2 rfl) (by kernel_rfl)) (Jai (Jm (H := H) (s := EN) (t := 22) (ty := 0) (pu := true) (capd := cd10) (id := k6) (d := d7) (o := o9) (n := l.length) (l := L8) (e := (l.length : Int)) (On.at hs3 3 rfl) (by kernel_rfl) (by first | rfl | omega | simp <;> omega)) (JZ (Jq (H := H) (t := 3) (u := 3) (a := room) (b := (l.length : Int)) (c := (room - (l.length : Int))) (by omega)))))) (by kernel_rfl)) (by kernel_rfl) ?_
   refine wE ?_
   exact ⟨Or.inr rfl, [.one (vi (room - (l.length : Int)))], (by kernel_rfl), ⟨rfl, rfl⟩⟩
  refine rSq [(1, xi (m.length : Int), H), (3, xi (room - (l.length : Int)), H), (4, xb false, H)] [(0, yp q), (1, .y (.one (rowC k d L.length o m.length cp))), (12, xb false)] H
    (cast (Jai (Jm (H := H) (s := EN) (t := 22) (ty := 0) (pu := true) (capd := cp) (id := k) (d := d) (o := o) (n := m.length) (l := L) (e := (m.length : Int)) (On.at hs3 1 rfl) (by kernel_rfl) (by first | rfl | omega | simp <;> omega)) (Jai (Jb hcall26 (by kernel_rfl)) (JZ (Jk (H := H) (t := 3) (u := 3) (a := (m.length : Int)) (b := (room - (l.length : Int))) (by omega))))) (by kernel_rfl)) (by kernel_rfl) ?_
  refine wFk ?_
  by_cases c28 : (0 : Int) < (m.length : Int)
  ·
   rcases Bool.eq_false_or_eq_true cd10 with rfl | rfl
   ·
    obtain ⟨n29, hn29⟩ : ∃ n, n = List.length (H : HH) := ⟨_, rfl⟩
    have hlfz30 : ((l ++ m).length : Int) = ((l.length : Int) + (m.length : Int)) := by { first | rfl | omega | simp <;> omega }
    refine rSq [(4, .y (.one (rowC k6 d7 L8.length o9 l.length true)), H), (6, .y (.one (rowC n29 0 (l ++ m).length 0 ((l ++ m).length) false)), (H ++ [rowO EN true 0 (l ++ m)])), (9, .tup [], (sto (H ++ [rowO EN true 0 (l ++ m)]) q (.obj [vi room, rowC n29 0 (l ++ m).length 0 ((l ++ m).length) false])))] [] (sto (H ++ [rowO EN true 0 (l ++ m)]) q (.obj [vi room, rowC n29 0 (l ++ m).length 0 ((l ++ m).length) false]))
      (cast (Jai (Ja (t := 22) (off := 1) (v := .one (rowC k6 d7 L8.length o9 l.length true)) (On.at hs3 2 rfl) (by kernel_rfl)) (Jai (Ji1 (H := H) (s := EN) (t := 22) (u := 22) (el := 35) (by_ := 24) (z := [vi 0, vi 0, vb false]) (ty := 0) (pu := true) (puy := true) (id := k6) (d := d7) (o := o9) (n := l.length) (m := m.length) (l := L8) (lm := m) (y := rowC k d L.length o m.length cp) (n' := (l ++ m).length) (k := n29) (l' := (l ++ m)) hn29 (On.at hs3 3 rfl) (slCells_rowO (H := H) (s := EN) (pu := true) (capd := cp) (id := k) (d := d) (o := o) (n := m.length) (l := L) (m := m) (On.at hs3 1 rfl) (by first | rfl | omega | simp <;> omega) (hl)) (by kernel_rfl) (by kernel_rfl) (by kernel_rfl) (by kernel_rfl) (by kernel_rfl) (by kernel_rfl) (by kernel_rfl) (by first | rfl | omega | simp <;> omega) (by first | rfl | omega | simp <;> omega) (by first | rfl | omega | simp <;> omega) (by omega) (by omega) (congrArg (fun z => z ++ _) (hl13)) (by first | (simp only [List.length_append]; done) | (simp only [List.length_append]; first | omega | (simp; done) | (simp; omega)))) (JZ (Jc (t := 22) (off := 1) (v := .one (rowC n29 0 (l ++ m).length 0 ((l ++ m).length) false)) (On.at (On.new' hn29 (rowO EN true 0 (l ++ m)) hs3) 2 rfl) (by kernel_rfl))))) (by kernel_rfl)) (by kernel_rfl) ?_
    refine wG (On.put (.obj [vi room, rowC n29 0 (l ++ m).length 0 ((l ++ m).length) false]) (On.new' hn29 (rowO EN true 0 (l ++ m)) hs3) 2 rfl) ?_
    intro H32 hs33
    refine rS0 [(4, xi 0)] (by kernel_rfl) ?_
    refine wE ?_
    refine ⟨Or.inr rfl, [.one (vi 0)], (by kernel_rfl), ?_⟩
    have hs34 : On [R, pts k (rowO EN true d L), pts k6 (rowO EN true d7 L8), ringP EN q room (l ++ m)] H32 := On.shut (cs := [R, pts k (rowO EN true d L), pts q (.obj [vi room, rowC n29 0 (l ++ m).length 0 ((l ++ m).length) false]), pts k6 (rowO EN true d7 L8), pts n29 (rowO EN true 0 (l ++ m))]) [2, 4] [0, 1, 3] (by kernel_rfl) (fun _ x => ring_row ⟨by omega, by omega, by first | rfl | omega | simp <;> omega⟩ (by first | rfl | omega | simp <;> omega) (by first | rfl | omega | simp <;> omega) (fun _ => by first | rfl | omega | simp <;> omega) ((dt0 rfl (Nat.le_refl _)).trans (show (l ++ m) = l ++ m from rfl)) x) hs33
    exact ⟨rfl, (On.pick [0, 3, 1] [2] (by kernel_rfl) hs34)⟩
   ·
    have hc12z := hc12 rfl
    have hlfz35 : ((l ++ m).length : Int) = ((l.length : Int) + (m.length : Int)) := by { first | rfl | omega | simp <;> omega }
    refine rSq [(4, .y (.one (rowC k6 d7 L8.length o9 l.length false)), H), (6, .y (.one (rowC k6 (d7 + o9) (l ++ m).length 0 ((l ++ m).length) false)), (sto H k6 (rowO EN true (d7 + o9) (l ++ m)))), (9, .tup [], (sto (sto H k6 (rowO EN true (d7 + o9) (l ++ m))) q (.obj [vi room, rowC k6 (d7 + o9) (l ++ m).length 0 ((l ++ m).length) false])))] [] (sto (sto H k6 (rowO EN true (d7 + o9) (l ++ m))) q (.obj [vi room, rowC k6 (d7 + o9) (l ++ m).length 0 ((l ++ m).length) false]))
      (cast (Jai (Ja (t := 22) (off := 1) (v := .one (rowC k6 d7 L8.length o9 l.length false)) (On.at hs3 2 rfl) (by kernel_rfl)) (Jai (Jj1 (H := H) (s := EN) (t := 22) (u := 22) (el := 35) (by_ := 24) (z := [vi 0, vi 0, vb false]) (ty := 0) (pu := true) (puy := true) (id := k6) (d := d7) (o := o9) (n := l.length) (m := m.length) (l := L8) (lm := m) (y := rowC k d L.length o m.length cp) (d' := (d7 + o9)) (l' := (l ++ m)) (n' := (l ++ m).length) (On.at hs3 3 rfl) (slCells_rowO (H := H) (s := EN) (pu := true) (capd := cp) (id := k) (d := d) (o := o) (n := m.length) (l := L) (m := m) (On.at hs3 1 rfl) (by first | rfl | omega | simp <;> omega) (hl)) (by kernel_rfl) (by kernel_rfl) (by kernel_rfl) (by kernel_rfl) (by kernel_rfl) (by kernel_rfl) (by kernel_rfl) (by first | rfl | omega | simp <;> omega) (by first | rfl | omega | simp <;> omega) (by first | rfl | omega | simp <;> omega) (by omega) (by omega) (by omega) (congrArg (fun z => z ++ m) (show L8.drop o9 = l from (List.take_of_length_le (by rw [List.length_drop]; omega)).symm.trans (hl13))) (by first | (simp only [List.length_append]; done) | (simp only [List.length_append]; first | omega | (simp; done) | (simp; omega)))) (JZ (Jc (t := 22) (off := 1) (v := .one (rowC k6 (d7 + o9) (l ++ m).length 0 ((l ++ m).length) false)) (On.at (On.put (rowO EN true (d7 + o9) (l ++ m)) hs3 3 rfl) 2 rfl) (by kernel_rfl))))) (by kernel_rfl)) (by kernel_rfl) ?_
    refine wG (On.put (.obj [vi room, rowC k6 (d7 + o9) (l ++ m).length 0 ((l ++ m).length) false]) (On.put (rowO EN true (d7 + o9) (l ++ m)) hs3 3 rfl) 2 rfl) ?_
    intro H37 hs38
    refine rS0 [(4, xi 0)] (by kernel_rfl) ?_
    refine wE ?_
    refine ⟨Or.inr rfl, [.one (vi 0)], (by kernel_rfl), ?_⟩
    have hs39 : On [R, pts k (rowO EN true d L), ringP EN q room (l ++ m)] H37 := On.shut (cs := [R, pts k (rowO EN true d L), pts q (.obj [vi room, rowC k6 (d7 + o9) (l ++ m).length 0 ((l ++ m).length) false]), pts k6 (rowO EN true (d7 + o9) (l ++ m))]) [2, 3] [0, 1] (by kernel_rfl) (fun _ x => ring_row ⟨by omega, by omega, by first | rfl | omega | simp <;> omega⟩ (by first | rfl | omega | simp <;> omega) (by first | rfl | omega | simp <;> omega) (fun _ => by first | rfl | omega | simp <;> omega) ((dt0 rfl (Nat.le_refl _)).trans (show (l ++ m) = l ++ m from rfl)) x) hs38
    exact ⟨rfl, (On.pick [0, 2, 1] [] (by kernel_rfl) hs39)⟩
  ·
   refine rSq [(4, .y (.one (rowC k6 d7 L8.length o9 l.length cd10)), H), (6, .y (.one (rowC k6 d7 L8.length o9 l.length cd10)), H), (9, .tup [], (sto H q (.obj [vi room, rowC k6 d7 L8.length o9 l.length cd10])))] [] (sto H q (.obj [vi room, rowC k6 d7 L8.length o9 l.length cd10]))
     (cast (Jai (Ja (t := 22) (off := 1) (v := .one (rowC k6 d7 L8.length o9 l.length cd10)) (On.at hs3 2 rfl) (by kernel_rfl)) (Jai (Jd1 (H := H) (t := 22) (u := 22) (el := 35) (by_ := 24) (z := [vi 0, vi 0, vb false]) (ty := 0) (sz := 3) (c := rowC k6 d7 L8.length o9 l.length cd10) (y := rowC k d L.length o m.length cp) (cs := l.flatMap (enc EN)) (n := l.length) (pu := true) (cs' := m.flatMap (enc EN)) (puy := true) (slCells_rowO (H := H) (s := EN) (pu := true) (capd := cd10) (id := k6) (d := d7) (o := o9) (n := l.length) (l := L8) (m := l) (On.at hs3 3 rfl) (by first | rfl | omega | simp <;> omega) (hl13)) (((slCells_rowO (H := H) (s := EN) (pu := true) (capd := cp) (id := k) (d := d) (o := o) (n := m.length) (l := L) (m := m) (On.at hs3 1 rfl) (by first | rfl | omega | simp <;> omega) (hl))).trans (by rw [show m.length = 0 from by first | rfl | omega | simp <;> omega])) (by kernel_rfl) (by kernel_rfl) (by kernel_rfl) (by kernel_rfl) (by kernel_rfl) (by kernel_rfl)) (JZ (Jc (t := 22) (off := 1) (v := .one (rowC k6 d7 L8.length o9 l.length cd10)) (On.at hs3 2 rfl) (by kernel_rfl))))) (by kernel_rfl)) (by kernel_rfl) ?_
   refine wG (On.put (.obj [vi room, rowC k6 d7 L8.length o9 l.length cd10]) hs3 2 rfl) ?_
   intro H40 hs41
   refine rS0 [(4, xi 0)] (by kernel_rfl) ?_
   refine wE ?_
   refine ⟨Or.inr rfl, [.one (vi 0)], (by kernel_rfl), ?_⟩
   have hs42 : On [R, pts k (rowO EN true d L), ringP EN q room (l ++ m)] H40 := On.shut (cs := [R, pts k (rowO EN true d L), pts q (.obj [vi room, rowC k6 d7 L8.length o9 l.length cd10]), pts k6 (rowO EN true d7 L8)]) [2, 3] [0, 1] (by kernel_rfl) (fun _ x => ring_row ⟨by omega, by omega, by first | rfl | omega | simp <;> omega⟩ (by first | rfl | omega | simp <;> omega) (by first | rfl | omega | simp <;> omega) (fun h => by have := hc12 h; first | rfl | omega | simp <;> omega) ((hl13).trans (by rw [show m = [] from List.eq_nil_of_length_eq_zero (by omega), List.append_nil])) x) hs41
   exact ⟨rfl, (On.pick [0, 2, 1] [] (by kernel_rfl) hs42)⟩
end Go.Proofs.Ytoidoeappihplaa
