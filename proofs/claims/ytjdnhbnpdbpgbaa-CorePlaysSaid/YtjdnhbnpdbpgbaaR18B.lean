/- Lemmas. -/
import Derived.Test.YtjdnhbnpdbpgbaaR18A
namespace Go.Proofs.Ytjdnhbnpdbpgbaa
open Go.Lg
set_option linter.unusedVariables false
set_option maxRecDepth 100000
set_option maxHeartbeats 8000000
set_option linter.unusedSimpArgs false
theorem own_row (R : HP) (H : HH) (k d o : Nat) (capd : Bool) (L l : List EN.T) (hs : On [R, pts k (rowO EN true d L)] H) (ho : o + l.length ≤ L.length) (hl : (L.drop o).take l.length = l) (hm : (l.length : Int) ≤ 65536) : ∃ rs H', Runs pg an 59 [.one (rowC k d L.length o l.length capd)] H rs H' ∧ ∃ k', rs = [.one (rowC k' 0 l.length 0 l.length true)] ∧ On [R, pts k (rowO EN true d L), pts k' (rowO EN true 0 l)] H' := by
 refine rOF Try.func59 rfl ?_
 refine rs0 [(0, .y (.one (rowC k d L.length o l.length capd)))] ?_
 obtain ⟨n1, hn1⟩ := lX H
 obtain ⟨zs2, hzs2, hlzs2⟩ : ∃ zs : List EN.T, zs = List.replicate ((l.length : Int) : Int).toNat (((0, (0, ())), (false, ()))) ∧ (zs.length : Int) = (l.length : Int) := ⟨_, rfl, by first | (simp; done) | (simp; omega) | omega⟩
 refine rGz [(0, .y (.one (rowC k d L.length o l.length capd))), (3, .y (.one (rowC n1 0 zs2.length 0 zs2.length false)))] (On.new' hn1 (rowO EN true 0 zs2) hs) (zA 1 (Jc (H := H) (s := EN) (t := 23) (ty := 0) (pu := true) (capd := capd) (id := k) (d := d) (o := o) (n := l.length) (l := L) (e := (l.length : Int)) (On.at hs 1 rfl) (by kernel_rfl) (by first | rfl | omega | (simp only [ek_]; omega) | (simp; done) | (simp; omega))) (zL 2 (Jf1 (H := H) (s := EN) (t := 23) (el := 40) (ty := 0) (by_ := 24) (k := n1) (n' := zs2.length) (pu := true) (z := ((0, (0, ())), (false, ()))) (zs := zs2) (n := (l.length : Int)) (c := (l.length : Int)) hn1 (by kernel_rfl) hzs2 (by kernel_rfl) (by kernel_rfl) (by kernel_rfl) (by kernel_rfl) (by kernel_rfl) (by omega) (by omega) (by omega) (by omega) (by omega)))) fun H3 hs4 => ?_
 refine rSz [(0, .y (.one (rowC k d L.length o l.length capd))), (3, .y (.one (rowC n1 0 zs2.length 0 zs2.length false)))] (sto H3 n1 (rowO EN true 0 l)) (zL 2 (Jg1 (H := H3) (s := EN) (t := 23) (u := 23) (el := 40) (ty := 0) (pu := true) (puy := true) (capd := false) (id := n1) (n := l.length) (d := 0) (nn := zs2.length) (l := zs2) (lm := l) (y := rowC k d L.length o l.length capd) (m := (l.length : Int)) rfl (On.at hs4 2 rfl) (slCells_rowO (H := H3) (s := EN) (pu := true) (capd := capd) (id := k) (d := d) (o := o) (n := l.length) (l := L) (m := l) (On.at hs4 1 rfl) (by first | rfl | omega | (simp only [ek_]; omega) | (simp; done) | (simp; omega)) (hl)) (by kernel_rfl) (by kernel_rfl) (by kernel_rfl) (by first | rfl | omega | (simp only [ek_]; omega) | (simp; done) | (simp; omega)) (by first | rfl | omega | (simp only [ek_]; omega) | (simp; done) | (simp; omega)) (by first | rfl | omega | (simp only [ek_]; omega) | (simp; done) | (simp; omega)) (by first | rfl | omega | (simp only [ek_]; omega) | (simp; done) | (simp; omega)))) ?_
 rw [show zs2.length = l.length from by first | rfl | omega | (simp only [ek_]; omega) | (simp; done) | (simp; omega)]
 refine wG (On.put (rowO EN true 0 l) hs4 2 rfl) fun H5 hs6 => ?_
 refine rSz [(2, .y (.one (rowC n1 0 l.length 0 l.length true)))] H5 (zA 2 (Jc (H := H5) (s := EN) (t := 23) (ty := 0) (pu := true) (capd := capd) (id := k) (d := d) (o := o) (n := l.length) (l := L) (e := (l.length : Int)) (On.at hs6 1 rfl) (by kernel_rfl) (by first | rfl | omega | (simp only [ek_]; omega) | (simp; done) | (simp; omega))) (zA 4 (Jc (H := H5) (s := EN) (t := 23) (ty := 0) (pu := true) (capd := capd) (id := k) (d := d) (o := o) (n := l.length) (l := L) (e := (l.length : Int)) (On.at hs6 1 rfl) (by kernel_rfl) (by first | rfl | omega | (simp only [ek_]; omega) | (simp; done) | (simp; omega))) (zL 5 (Jr (H := H5) (s := EN) (t := 23) (el := 40) (ty := 0) (pu := true) (id := n1) (d := 0) (o := 0) (n := l.length) (l := l) (capd := false) (n' := l.length) (h := (l.length : Int)) (On.at hs6 2 rfl) (by kernel_rfl) (by kernel_rfl) (by omega) (by first | rfl | omega | (simp only [ek_]; omega) | (simp; done) | (simp; omega)) (by first | rfl | omega | (simp only [ek_]; omega) | (simp; done) | (simp; omega)) (by first | rfl | omega | (simp only [ek_]; omega) | (simp; done) | (simp; omega)))))) ?_
 refine wE ?_
 refine ⟨Or.inr rfl, [.one (rowC n1 0 l.length 0 l.length true)], (by kernel_rfl), ?_⟩
 exact ⟨n1, rfl, (On.pick [0, 1, 2] [] (by kernel_rfl) hs6)⟩
theorem own_nil (R : HP) (H : HH) (hs : On [R] H) : ∃ rs H', Runs pg an 59 [.one (nilC)] H rs H' ∧ ∃ k', rs = [.one (rowC k' 0 ([] : List EN.T).length 0 ([] : List EN.T).length true)] ∧ On [R, pts k' (rowO EN true 0 ([] : List EN.T))] H' := by
 refine rOF Try.func59 rfl ?_
 refine rs0 [(0, .y (.one (nilC)))] ?_
 obtain ⟨n1, hn1⟩ := lX H
 obtain ⟨zs2, hzs2, hlzs2⟩ : ∃ zs : List EN.T, zs = List.replicate (0 : Int).toNat (((0, (0, ())), (false, ()))) ∧ (zs.length : Int) = 0 := ⟨_, rfl, by first | (simp; done) | (simp; omega) | omega⟩
 refine rGz [(0, .y (.one (nilC))), (3, .y (.one (rowC n1 0 zs2.length 0 zs2.length false)))] (On.new' hn1 (rowO EN true 0 zs2) hs) (zL 2 (Jf1 (H := H) (s := EN) (t := 23) (el := 40) (ty := 0) (by_ := 24) (k := n1) (n' := zs2.length) (pu := true) (z := ((0, (0, ())), (false, ()))) (zs := zs2) (n := 0) (c := 0) hn1 (by kernel_rfl) hzs2 (by kernel_rfl) (by kernel_rfl) (by kernel_rfl) (by kernel_rfl) (by kernel_rfl) (by omega) (by omega) (by omega) (by omega) (by omega))) fun H3 hs4 => ?_
 refine rSz [(0, .y (.one (nilC))), (3, .y (.one (rowC n1 0 zs2.length 0 zs2.length false)))] (sto H3 n1 (rowO EN true 0 ([] : List EN.T))) (zL 2 (Jg1 (H := H3) (s := EN) (t := 23) (u := 23) (el := 40) (ty := 0) (pu := true) (puy := true) (capd := false) (id := n1) (n := 0) (d := 0) (nn := zs2.length) (l := zs2) (lm := ([] : List EN.T)) (y := nilC) (m := 0) rfl (On.at hs4 1 rfl) (slCells_slO (H := H3) (s := EN) (b := false) (nil := true) (capd := true) (l := ([] : List EN.T)) (n := 0) (by first | rfl | omega | (simp only [ek_]; omega) | (simp; done) | (simp; omega))) (by kernel_rfl) (by kernel_rfl) (by kernel_rfl) (by first | rfl | omega | (simp only [ek_]; omega) | (simp; done) | (simp; omega)) (by first | rfl | omega | (simp only [ek_]; omega) | (simp; done) | (simp; omega)) (by first | rfl | omega | (simp only [ek_]; omega) | (simp; done) | (simp; omega)) (by first | rfl | omega | (simp only [ek_]; omega) | (simp; done) | (simp; omega)))) ?_
 rw [show zs2.length = ([] : List EN.T).length from by first | rfl | omega | (simp only [ek_]; omega) | (simp; done) | (simp; omega)]
 refine wG (On.put (rowO EN true 0 ([] : List EN.T)) hs4 1 rfl) fun H5 hs6 => ?_
 refine rSz [(2, .y (.one (rowC n1 0 ([] : List EN.T).length 0 (([] : List EN.T).length) true)))] H5 (zL 5 (Jr (H := H5) (s := EN) (t := 23) (el := 40) (ty := 0) (pu := true) (id := n1) (d := 0) (o := 0) (n := (([] : List EN.T).length)) (l := ([] : List EN.T)) (capd := false) (n' := (([] : List EN.T).length)) (h := 0) (On.at hs6 1 rfl) (by kernel_rfl) (by kernel_rfl) (by omega) (by first | rfl | omega | (simp only [ek_]; omega) | (simp; done) | (simp; omega)) (by first | rfl | omega | (simp only [ek_]; omega) | (simp; done) | (simp; omega)) (by first | rfl | omega | (simp only [ek_]; omega) | (simp; done) | (simp; omega)))) ?_
 refine wE ?_
 refine ⟨Or.inr rfl, [.one (rowC n1 0 ([] : List EN.T).length 0 (([] : List EN.T).length) true)], (by kernel_rfl), ?_⟩
 exact ⟨n1, rfl, (On.pick [0, 1] [] (by kernel_rfl) hs6)⟩
theorem new_ok (R : HP) (H : HH) (room : Int) (hs : On [R] H) (h1 : 1 ≤ room) (h2 : room ≤ 65536) : ∃ rs H', Runs pg an 51 [.one (vi room)] H rs H' ∧ ∃ q, rs = [.one (.ptr q 0), .one (vi 0)] ∧ On [R, ringP EN q room ([] : List EN.T)] H' := by
 refine rOF Try.func51 rfl ?_
 refine rs0 [(0, xi room)] ?_
 refine wS ?_
 refine rSz [(0, xi room), (9, xb false)] H (zA 1 (qlssF H room 1) (zL 4 (qgtrF H room 65536))) ?_
 refine wFk ?_
 obtain ⟨n1, hn1⟩ := lX H
 refine rGz [(2, yp n1), (3, xi 0)] (On.new' hn1 (.obj [vi room, nilC]) hs) (zL 2 (qB 105 [vi room, nilC] hn1)) fun H2 hs3 => ?_
 refine wE ?_
 refine ⟨Or.inr rfl, [.one (.ptr n1 0), .one (vi 0)], (by kernel_rfl), ?_⟩
 have hs4 : On [R, ringP EN n1 room ([] : List EN.T)] H2 := sH hs3 [1] [0] (fun _ x => ring_nil' (rfl) ⟨by omega, by omega⟩ x)
 exact ⟨n1, rfl, (On.pick [0, 1] [] (by kernel_rfl) hs4)⟩
theorem len_ok (R : HP) (H : HH) (q : Nat) (room : Int) (l : List EN.T) (hs : On [R, ringP EN q room l] H) : ∃ rs H', Runs pg an 32 [.one (.ptr q 0)] H rs H' ∧ rs = [.one (vi (l.length))] ∧ On [R, ringP EN q room l] H' := by
 obtain ⟨⟨hb3a, hb3b, hb3c⟩, ⟨hl4, hs1⟩ | ⟨k5, d6, L7, o8, cd9, ho10, hc11, hl12, hs2⟩⟩ := ring_open hs 1 rfl
 ·
  have hl4n : (l.length : Int) = 0 := by rw [hl4]; rfl
  refine rOF Try.func32 rfl ?_
  refine rs0 [(0, yp q)] ?_
  refine wS ?_
  have hcall13 : Runs pg an 53 [.one (.ptr q 0)] H [.one (vb true)] H := by
   refine runs_of ?_
   refine rOF Try.func53 rfl ?_
   refine rs0 [(0, yp q)] ?_
   refine rSz [(2, xb true)] H (zA 6 (qL 3 0 (.one (vi room)) (On.at hs1 1 rfl)) (zL 7 (qgtrT H room 0))) ?_
   refine wE ?_
   exact ⟨Or.inr rfl, [.one (vb true)], (by kernel_rfl), ⟨rfl, rfl⟩⟩
  refine rSz [(0, yp q), (5, xb false)] H (zL 1 (qC1 hcall13)) ?_
  refine wFk ?_
  refine rSz [(2, xi 0)] H (zL 3 (qL 23 1 (.one (nilC)) (On.at hs1 1 rfl))) ?_
  refine wE ?_
  refine ⟨Or.inr rfl, [.one (vi 0)], (by kernel_rfl), ?_⟩
  have hs14 : On [R, ringP EN q room l] H := sH hs1 [1] [0] (fun _ x => ring_nil' (hl4) ⟨by omega, by omega⟩ x)
  exact ⟨congrArg (fun z : Int => [Y.one (vi z)]) (by omega), (On.pick [0, 1] [] (by kernel_rfl) hs14)⟩
 refine rOF Try.func32 rfl ?_
 refine rs0 [(0, yp q)] ?_
 refine wS ?_
 have hcall15 : Runs pg an 53 [.one (.ptr q 0)] H [.one (vb true)] H := by
  refine runs_of ?_
  refine rOF Try.func53 rfl ?_
  refine rs0 [(0, yp q)] ?_
  refine rSz [(2, xb true)] H (zA 6 (qL 3 0 (.one (vi room)) (On.at hs2 1 rfl)) (zL 7 (qgtrT H room 0))) ?_
  refine wE ?_
  exact ⟨Or.inr rfl, [.one (vb true)], (by kernel_rfl), ⟨rfl, rfl⟩⟩
 refine rSz [(0, yp q), (5, xb false)] H (zL 1 (qC1 hcall15)) ?_
 refine wFk ?_
 refine rSz [(2, xi (l.length : Int))] H (zA 3 (qL 23 1 (.one (rowC k5 d6 L7.length o8 l.length cd9)) (On.at hs2 1 rfl)) (zL 4 (Jc (H := H) (s := EN) (t := 23) (ty := 0) (pu := true) (capd := cd9) (id := k5) (d := d6) (o := o8) (n := l.length) (l := L7) (e := (l.length : Int)) (On.at hs2 2 rfl) (by kernel_rfl) (by first | rfl | omega | (simp only [ek_]; omega) | (simp; done) | (simp; omega))))) ?_
 refine wE ?_
 refine ⟨Or.inr rfl, [.one (vi (l.length : Int))], (by kernel_rfl), ?_⟩
 have hs16 : On [R, ringP EN q room l] H := sH hs2 [1, 2] [0] (fun _ x => ring_row ⟨by omega, by omega, by first | rfl | omega | (simp only [ek_]; omega) | (simp; done) | (simp; omega)⟩ (by first | rfl | omega | (simp only [ek_]; omega) | (simp; done) | (simp; omega)) (by first | rfl | omega | (simp only [ek_]; omega) | (simp; done) | (simp; omega)) (fun h => by have := hc11 h; first | rfl | omega | (simp only [ek_]; omega) | (simp; done) | (simp; omega)) (hl12) x)
 exact ⟨congrArg (fun z : Int => [Y.one (vi z)]) (by omega), (On.pick [0, 1] [] (by kernel_rfl) hs16)⟩
theorem at_ok (R : HP) (H : HH) (q : Nat) (room : Int) (l : List EN.T) (i : Int) (x : EN.T) (hs : On [R, ringP EN q room l] H) (h0 : 0 ≤ i) (h1 : i < l.length) (hx : l[i.toNat]? = some x) : ∃ rs H', Runs pg an 57 [.one (.ptr q 0), .one (vi i)] H rs H' ∧ rs = [.agg [vi x.1.1, vi x.1.2.1, vb x.2.1], .one (vi 0)] ∧ On [R, ringP EN q room l] H' := by
 obtain ⟨⟨hb3a, hb3b, hb3c⟩, ⟨hl4, hs1⟩ | ⟨k5, d6, L7, o8, cd9, ho10, hc11, hl12, hs2⟩⟩ := ring_open hs 1 rfl
 ·
  have hl4n : (l.length : Int) = 0 := by rw [hl4]; rfl
  exfalso; omega
 refine rOF Try.func57 rfl ?_
 obtain ⟨n13, hn13⟩ := lX H
 refine rGz [(0, yp q), (1, xi i), (4, yp n13)] (On.new' hn13 (.obj [vi 0, vi 0, vb false]) hs2) (zL 0 (qO 40 [vi 0, vi 0, vb false] hn13)) fun H14 hs15 => ?_
 refine wS ?_
 have hcall16 : Runs pg an 53 [.one (.ptr q 0)] H14 [.one (vb true)] H14 := by
  refine runs_of ?_
  refine rOF Try.func53 rfl ?_
  refine rs0 [(0, yp q)] ?_
  refine rSz [(2, xb true)] H14 (zA 6 (qL 3 0 (.one (vi room)) (On.at hs15 1 rfl)) (zL 7 (qgtrT H14 room 0))) ?_
  refine wE ?_
  exact ⟨Or.inr rfl, [.one (vb true)], (by kernel_rfl), ⟨rfl, rfl⟩⟩
 refine rSz [(0, yp q), (1, xi i), (4, yp n13), (8, xb false)] H14 (zL 1 (qC1 hcall16)) ?_
 refine wFk ?_
 refine wS ?_
 refine rSz [(0, yp q), (1, xi i), (4, yp n13), (20, xb false)] H14 (zA 1 (qlssF H14 i 0) (zA 7 (qL 23 1 (.one (rowC k5 d6 L7.length o8 l.length cd9)) (On.at hs15 1 rfl)) (zA 8 (Jc (H := H14) (s := EN) (t := 23) (ty := 0) (pu := true) (capd := cd9) (id := k5) (d := d6) (o := o8) (n := l.length) (l := L7) (e := (l.length : Int)) (On.at hs15 2 rfl) (by kernel_rfl) (by first | rfl | omega | (simp only [ek_]; omega) | (simp; done) | (simp; omega))) (zL 9 (qgeqF H14 i (l.length : Int)))))) ?_
 refine wFk ?_
 obtain ⟨x17, hx17⟩ : ∃ x : EN.T, l[(i : Int).toNat]? = some x := get_of (by first | rfl | omega | (simp only [ek_]; omega) | (simp; done) | (simp; omega))
 refine rGz [(4, yp n13), (5, xi 0)] (On.put (.obj [vi x17.1.1, vi x17.1.2.1, vb x17.2.1]) hs15 3 rfl) (zA 3 (qL 23 1 (.one (rowC k5 d6 L7.length o8 l.length cd9)) (On.at hs15 1 rfl)) (zA 5 (Jl (H := H14) (s := EN) (t := 23) (el := 40) (ty := 0) (pu := true) (capd := cd9) (id := k5) (d := d6) (o := o8) (n := l.length) (j := ((((o8 : Int) + i) : Int).toNat)) (l := L7) (i := i) (On.at hs15 2 rfl) Try.underlying23 (by kernel_rfl) (by omega) (by first | rfl | omega | (simp only [ek_]; omega) | (simp; done) | (simp; omega)) (by first | rfl | omega | (simp only [ek_]; omega) | (simp; done) | (simp; omega)) (by first | rfl | omega | (simp only [ek_]; omega) | (simp; done) | (simp; omega))) (zA 6 (Jt (H := H14) (s := EN) (t := 40) (ty := 0) (pu := true) (id := k5) (d := d6) (j := ((((o8 : Int) + i) : Int).toNat)) (o := 0) (n := 3) (l := L7) (x := x17) (v := .agg [vi x17.1.1, vi x17.1.2.1, vb x17.2.1]) (On.at hs15 2 rfl) (by kernel_rfl) (by kernel_rfl) (of_content (hl12) hx17 (by first | rfl | omega | (simp only [ek_]; omega) | (simp; done) | (simp; omega))) (by kernel_rfl)) (zL 7 (qS 40 0 (.agg [vi x17.1.1, vi x17.1.2.1, vb x17.2.1]) (On.at hs15 3 rfl)))))) fun H18 hs19 => ?_
 refine wE ?_
 refine ⟨Or.inr rfl, [.agg [vi x17.1.1, vi x17.1.2.1, vb x17.2.1], .one (vi 0)], (rC (On.at hs19 3 rfl)), ?_⟩
 have hs20 : On [R, pts n13 (.obj [vi x17.1.1, vi x17.1.2.1, vb x17.2.1]), ringP EN q room l] H18 := sH hs19 [1, 2] [0, 3] (fun _ x => ring_row ⟨by omega, by omega, by first | rfl | omega | (simp only [ek_]; omega) | (simp; done) | (simp; omega)⟩ (by first | rfl | omega | (simp only [ek_]; omega) | (simp; done) | (simp; omega)) (by first | rfl | omega | (simp only [ek_]; omega) | (simp; done) | (simp; omega)) (fun h => by have := hc11 h; first | rfl | omega | (simp only [ek_]; omega) | (simp; done) | (simp; omega)) (hl12) x)
 obtain rfl : x17 = x := Option.some.inj (hx17.symm.trans hx)
 exact ⟨rfl, (On.pick [0, 2] [1] (by kernel_rfl) hs20)⟩
theorem take_ok (R : HP) (H : HH) (q : Nat) (room : Int) (l : List EN.T) (i : Int) (x : EN.T) (l' : List EN.T) (hs : On [R, ringP EN q room l] H) (h0 : 0 ≤ i) (h1 : i < l.length) (hx : l[i.toNat]? = some x) (hl' : l.take i.toNat ++ l.drop (i + 1).toNat = l') : ∃ rs H', Runs pg an 39 [.one (.ptr q 0), .one (vi i)] H rs H' ∧ rs = [.agg [vi x.1.1, vi x.1.2.1, vb x.2.1], .one (vi 0)] ∧ On [R, ringP EN q room l'] H' := by
 have hle' : (l'.length : Int) = l.length - 1 := by rw [← hl']; simp only [ej_, eh_, ei_]; omega
 refine rOF Try.func39 rfl ?_
 obtain ⟨n1, hn1⟩ := lX H
 refine rGz [(0, yp q), (1, xi i), (4, yp n1)] (On.new' hn1 (.obj [vi 0, vi 0, vb false]) hs) (zL 0 (qO 40 [vi 0, vi 0, vb false] hn1)) fun H2 hs3 => ?_
 refine wS ?_
 obtain ⟨_, H4, hr5, rfl, hs6⟩ := at_ok _ (H2 : HH) (On.call [1] [0, 2] (by kernel_rfl) hs3) (q := q) (room := room) (l := l) (i := i) (x := x) (by omega) (by first | rfl | omega | (simp only [ek_]; omega) | (simp; done) | (simp; omega)) hx
 have hs6 : On [R, pts n1 (.obj [vi 0, vi 0, vb false]), ringP EN q room l] H4 := On.flat hs6
 refine rGz [(0, yp q), (1, xi i), (4, yp n1), (5, xi 0)] (On.put (.obj [vi x.1.1, vi x.1.2.1, vb x.2.1]) hs6 1 rfl) (zA 2 (qC2 hr5) (zL 6 (qS 40 0 (.agg [vi x.1.1, vi x.1.2.1, vb x.2.1]) (On.at hs6 1 rfl)))) fun H7 hs8 => ?_
 refine rs0 [(0, yp q), (1, xi i), (4, yp n1), (5, xi 0), (13, xb false)] ?_
 refine wFk ?_
 obtain ⟨⟨hb11a, hb11b, hb11c⟩, ⟨hl12, hs9⟩ | ⟨k13, d14, L15, o16, cd17, ho18, hc19, hl20, hs10⟩⟩ := ring_open hs8 2 rfl
 ·
  have hl12n : (l.length : Int) = 0 := by rw [hl12]; rfl
  exfalso; omega
 by_cases c22 : (i : Int) = 0
 ·
  have hlfz24 : ((l.drop 1).length : Int) = ((l.length : Int) - 1) := by { first | rfl | omega | (simp only [ek_]; omega) | (simp; done) | (simp; omega) }
  have hcall25 : Runs pg an 58 [.one (rowC k13 d14 L15.length o16 l.length cd17), .one (vi i)] H7 [.one (rowC k13 d14 L15.length ((((o16 : Int) + 1) : Int).toNat) ((l.drop 1).length) cd17)] H7 := by
   refine runs_of ?_
   refine rOF Try.func58 rfl ?_
   refine rs0 [(0, .y (.one (rowC k13 d14 L15.length o16 l.length cd17))), (1, xi i)] ?_
   refine wS ?_
   refine rSz [(0, .y (.one (rowC k13 d14 L15.length o16 l.length cd17))), (1, xi i), (6, xb true)] H7 (zL 1 (Ja (vals := [xi i, xi 0]) (H := H7) (op := .binOp .eql 3 (.tmp 0) (.tmp 1) 3) (ty := 0) (r := xb ((i : Int) == 0)) (v := xb true) (by kernel_rfl) (congrArg (fun z => xb z) (beq_t (by omega))))) ?_
   refine wTa ?_
   refine rSz [(4, .y (.one (rowC k13 d14 L15.length ((((o16 : Int) + 1) : Int).toNat) ((l.drop 1).length) cd17)))] H7 (zL 1 (Ju (H := H7) (s := EN) (t := 23) (el := 40) (ty := 0) (pu := true) (id := k13) (d := d14) (o := o16) (n := l.length) (l := L15) (capd := cd17) (o' := ((((o16 : Int) + 1) : Int).toNat)) (n' := ((l.drop 1).length)) (a := 1) (On.at hs10 3 rfl) (by kernel_rfl) (by kernel_rfl) (by omega) (by first | rfl | omega | (simp only [ek_]; omega) | (simp; done) | (simp; omega)) (by first | rfl | omega | (simp only [ek_]; omega) | (simp; done) | (simp; omega)) (by first | rfl | omega | (simp only [ek_]; omega) | (simp; done) | (simp; omega)) (by first | rfl | omega | (simp only [ek_]; omega) | (simp; done) | (simp; omega)))) ?_
   refine wE ?_
   exact ⟨Or.inr rfl, [.one (rowC k13 d14 L15.length ((((o16 : Int) + 1) : Int).toNat) ((l.drop 1).length) cd17)], (by kernel_rfl), ⟨rfl, rfl⟩⟩
  refine rGz [(4, yp n1)] (On.put (.obj [vi room, rowC k13 d14 L15.length ((((o16 : Int) + 1) : Int).toNat) ((l.drop 1).length) cd17]) hs10 2 rfl) (zA 4 (qL 23 1 (.one (rowC k13 d14 L15.length o16 l.length cd17)) (On.at hs10 2 rfl)) (zA 6 (qC2 hcall25) (zL 9 (qS 23 1 (.one (rowC k13 d14 L15.length ((((o16 : Int) + 1) : Int).toNat) ((l.drop 1).length) cd17)) (On.at hs10 2 rfl))))) fun H27 hs28 => ?_
  refine rGz [(4, yp n1), (5, xi 0)] (On.put (.obj [vi x.1.1, vi x.1.2.1, vb x.2.1]) hs28 1 rfl) (zA 0 (qA 40 (On.at hs28 1 rfl)) (zL 1 (qS 40 0 (.agg [vi x.1.1, vi x.1.2.1, vb x.2.1]) (On.at hs28 1 rfl)))) fun H29 hs30 => ?_
  refine wE ?_
  refine ⟨Or.inr rfl, [.agg [vi x.1.1, vi x.1.2.1, vb x.2.1], .one (vi 0)], (rC (On.at hs30 1 rfl)), ?_⟩
  have hs31 : On [R, pts n1 (.obj [vi x.1.1, vi x.1.2.1, vb x.2.1]), ringP EN q room l'] H29 := sH hs30 [2, 3] [0, 1] (fun _ x => ring_row ⟨by omega, by omega, by first | rfl | omega | (simp only [ek_]; omega) | (simp; done) | (simp; omega)⟩ (by first | rfl | omega | (simp only [ek_]; omega) | (simp; done) | (simp; omega)) (by first | rfl | omega | (simp only [ek_]; omega) | (simp; done) | (simp; omega)) (fun h => by have := hc19 h; first | rfl | omega | (simp only [ek_]; omega) | (simp; done) | (simp; omega)) (((content_sub (a := 1) (n' := (l.drop 1).length) (hl20) (by first | rfl | omega | (simp only [ek_]; omega) | (simp; done) | (simp; omega)) (by first | rfl | omega | (simp only [ek_]; omega) | (simp; done) | (simp; omega))).trans (dt1 (by first | rfl | omega | (simp only [ek_]; omega) | (simp; done) | (simp; omega)) (by first | rfl | omega | (simp only [ek_]; omega) | (simp; done) | (simp; omega)))).trans ((by first | exact hl' | (rw [← hl']; done) | (rw [← hl']; simp; done) | (rw [← hl']; apply List.ext_getElem?; intro j; simp [eg_, ee_, ef_]; omega) | (rw [← hl']; first | rfl | (apply List.ext_getElem?; intro i; first | (simp only [ea_, eb_, ec_, ed_, ee_, ef_, eg_, eh_, ei_, ej_, ek_, el_, em_]; done) | ((try simp only [ea_, eb_, ec_, ed_, ee_, ef_, eg_, eh_, ei_, ej_, ek_, el_, em_]); (repeat' split) <;> first | rfl | (congr 1; omega) | (exfalso; omega) | (exact ep_ (by omega)) | (exact (ep_ (by omega)).symm))))))) x)
  exact ⟨rfl, (On.pick [0, 2] [1] (by kernel_rfl) hs31)⟩
 have hlfz33 : ((l.take ((i : Int).toNat)).length : Int) = i := by { first | rfl | omega | (simp only [ek_]; omega) | (simp; done) | (simp; omega) }
 have hlfz36 : ((l.drop (((i + 1) : Int).toNat)).length : Int) = ((l.length : Int) - i - 1) := by { first | rfl | omega | (simp only [ek_]; omega) | (simp; done) | (simp; omega) }
 by_cases c40 : (0 : Int) < ((l.drop (((i + 1) : Int).toNat)).length : Int)
 ·
  obtain ⟨n44, hn44⟩ := lX H7
  have hlfz48 : (((l.take ((i : Int).toNat)) ++ (l.drop (((i + 1) : Int).toNat))).length : Int) = (((l.take ((i : Int).toNat)).length : Int) + ((l.drop (((i + 1) : Int).toNat)).length : Int)) := by { first | rfl | omega | (simp only [ek_]; omega) | (simp; done) | (simp; omega) }
  have hcall49 : Runs pg an 58 [.one (rowC k13 d14 L15.length o16 l.length cd17), .one (vi i)] H7 [.one (rowC n44 0 ((l.take ((i : Int).toNat)) ++ (l.drop (((i + 1) : Int).toNat))).length 0 (((l.take ((i : Int).toNat)) ++ (l.drop (((i + 1) : Int).toNat))).length) false)] (H7 ++ [rowO EN true 0 ((l.take ((i : Int).toNat)) ++ (l.drop (((i + 1) : Int).toNat)))]) := by
   refine runs_of ?_
   refine rOF Try.func58 rfl ?_
   refine rs0 [(0, .y (.one (rowC k13 d14 L15.length o16 l.length cd17))), (1, xi i)] ?_
   refine wS ?_
   refine rSz [(0, .y (.one (rowC k13 d14 L15.length o16 l.length cd17))), (1, xi i), (6, xb false)] H7 (zL 1 (Ja (vals := [xi i, xi 0]) (H := H7) (op := .binOp .eql 3 (.tmp 0) (.tmp 1) 3) (ty := 0) (r := xb ((i : Int) == 0)) (v := xb false) (by kernel_rfl) (congrArg (fun z => xb z) (beq_f (by omega))))) ?_
   refine wFk ?_
   refine rSz [(4, .y (.one (rowC n44 0 ((l.take ((i : Int).toNat)) ++ (l.drop (((i + 1) : Int).toNat))).length 0 (((l.take ((i : Int).toNat)) ++ (l.drop (((i + 1) : Int).toNat))).length) false)))] (H7 ++ [rowO EN true 0 ((l.take ((i : Int).toNat)) ++ (l.drop (((i + 1) : Int).toNat)))]) (zA 3 (Jr (H := H7) (s := EN) (t := 23) (el := 40) (ty := 0) (pu := true) (id := k13) (d := d14) (o := o16) (n := l.length) (l := L15) (capd := cd17) (n' := ((l.take ((i : Int).toNat)).length)) (h := i) (On.at hs10 3 rfl) (by kernel_rfl) (by kernel_rfl) (by omega) (by first | rfl | omega | (simp only [ek_]; omega) | (simp; done) | (simp; omega)) (by first | rfl | omega | (simp only [ek_]; omega) | (simp; done) | (simp; omega)) (by first | rfl | omega | (simp only [ek_]; omega) | (simp; done) | (simp; omega))) (zA 6 (qoAdd H7 i 1 (i + 1)) (zA 7 (Ju (H := H7) (s := EN) (t := 23) (el := 40) (ty := 0) (pu := true) (id := k13) (d := d14) (o := o16) (n := l.length) (l := L15) (capd := cd17) (o' := ((((o16 : Int) + i + 1) : Int).toNat)) (n' := ((l.drop (((i + 1) : Int).toNat)).length)) (a := (i + 1)) (On.at hs10 3 rfl) (by kernel_rfl) (by kernel_rfl) (by omega) (by first | rfl | omega | (simp only [ek_]; omega) | (simp; done) | (simp; omega)) (by first | rfl | omega | (simp only [ek_]; omega) | (simp; done) | (simp; omega)) (by first | rfl | omega | (simp only [ek_]; omega) | (simp; done) | (simp; omega)) (by first | rfl | omega | (simp only [ek_]; omega) | (simp; done) | (simp; omega))) (zL 8 (Jv (H := H7) (s := EN) (t := 23) (u := 23) (el := 40) (by_ := 24) (z := [vi 0, vi 0, vb false]) (ty := 0) (pu := true) (puy := true) (id := k13) (d := d14) (o := o16) (n := ((l.take ((i : Int).toNat)).length)) (m := ((l.drop (((i + 1) : Int).toNat)).length)) (l := L15) (lm := (l.drop (((i + 1) : Int).toNat))) (y := rowC k13 d14 L15.length ((((o16 : Int) + i + 1) : Int).toNat) ((l.drop (((i + 1) : Int).toNat)).length) cd17) (n' := ((l.take ((i : Int).toNat)) ++ (l.drop (((i + 1) : Int).toNat))).length) (k := n44) (l' := ((l.take ((i : Int).toNat)) ++ (l.drop (((i + 1) : Int).toNat)))) hn44 (On.at hs10 3 rfl) (slCells_rowO (H := H7) (s := EN) (pu := true) (capd := cd17) (id := k13) (d := d14) (o := ((((o16 : Int) + i + 1) : Int).toNat)) (n := ((l.drop (((i + 1) : Int).toNat)).length)) (l := L15) (m := (l.drop (((i + 1) : Int).toNat))) (On.at hs10 3 rfl) (by first | rfl | omega | (simp only [ek_]; omega) | (simp; done) | (simp; omega)) ((content_sub (a := (((i + 1) : Int).toNat)) (n' := (l.drop (((i + 1) : Int).toNat)).length) (hl20) (by first | rfl | omega | (simp only [ek_]; omega) | (simp; done) | (simp; omega)) (by first | rfl | omega | (simp only [ek_]; omega) | (simp; done) | (simp; omega))).trans (dt1 (by first | rfl | omega | (simp only [ek_]; omega) | (simp; done) | (simp; omega)) (by first | rfl | omega | (simp only [ek_]; omega) | (simp; done) | (simp; omega))))) (by kernel_rfl) (by kernel_rfl) (by kernel_rfl) (by kernel_rfl) (by kernel_rfl) (by kernel_rfl) (by kernel_rfl) (by first | rfl | omega | (simp only [ek_]; omega) | (simp; done) | (simp; omega)) (by first | rfl | omega | (simp only [ek_]; omega) | (simp; done) | (simp; omega)) (by first | rfl | omega | (simp only [ek_]; omega) | (simp; done) | (simp; omega)) (by omega) (by omega) (congrArg (fun z => z ++ _) ((content_sub (a := 0) (n' := (l.take ((i : Int).toNat)).length) (hl20) (by first | rfl | omega | (simp only [ek_]; omega) | (simp; done) | (simp; omega)) (by first | rfl | omega | (simp only [ek_]; omega) | (simp; done) | (simp; omega))).trans (take_len (by first | rfl | omega | (simp only [ek_]; omega) | (simp; done) | (simp; omega))))) (by first | (simp only [ej_]; done) | (simp only [ej_]; first | omega | (simp; done) | (simp; omega)))))))) ?_
   refine wE ?_
   exact ⟨Or.inr rfl, [.one (rowC n44 0 ((l.take ((i : Int).toNat)) ++ (l.drop (((i + 1) : Int).toNat))).length 0 (((l.take ((i : Int).toNat)) ++ (l.drop (((i + 1) : Int).toNat))).length) false)], (by kernel_rfl), ⟨rfl, rfl⟩⟩
  refine rGz [(4, yp n1)] (On.put (.obj [vi room, rowC n44 0 ((l.take ((i : Int).toNat)) ++ (l.drop (((i + 1) : Int).toNat))).length 0 (((l.take ((i : Int).toNat)) ++ (l.drop (((i + 1) : Int).toNat))).length) false]) (On.new' hn44 (rowO EN true 0 ((l.take ((i : Int).toNat)) ++ (l.drop (((i + 1) : Int).toNat)))) hs10) 2 rfl) (zA 4 (qL 23 1 (.one (rowC k13 d14 L15.length o16 l.length cd17)) (On.at hs10 2 rfl)) (zA 6 (qC2 hcall49) (zL 9 (qS 23 1 (.one (rowC n44 0 ((l.take ((i : Int).toNat)) ++ (l.drop (((i + 1) : Int).toNat))).length 0 (((l.take ((i : Int).toNat)) ++ (l.drop (((i + 1) : Int).toNat))).length) false)) (On.at (On.new' hn44 (rowO EN true 0 ((l.take ((i : Int).toNat)) ++ (l.drop (((i + 1) : Int).toNat)))) hs10) 2 rfl))))) fun H53 hs54 => ?_
  refine rGz [(4, yp n1), (5, xi 0)] (On.put (.obj [vi x.1.1, vi x.1.2.1, vb x.2.1]) hs54 1 rfl) (zA 0 (qA 40 (On.at hs54 1 rfl)) (zL 1 (qS 40 0 (.agg [vi x.1.1, vi x.1.2.1, vb x.2.1]) (On.at hs54 1 rfl)))) fun H55 hs56 => ?_
  refine wE ?_
  refine ⟨Or.inr rfl, [.agg [vi x.1.1, vi x.1.2.1, vb x.2.1], .one (vi 0)], (rC (On.at hs56 1 rfl)), ?_⟩
  have hs57 : On [R, pts n1 (.obj [vi x.1.1, vi x.1.2.1, vb x.2.1]), pts k13 (rowO EN true d14 L15), ringP EN q room l'] H55 := sH hs56 [2, 4] [0, 1, 3] (fun _ x => ring_row ⟨by omega, by omega, by first | rfl | omega | (simp only [ek_]; omega) | (simp; done) | (simp; omega)⟩ (by first | rfl | omega | (simp only [ek_]; omega) | (simp; done) | (simp; omega)) (by first | rfl | omega | (simp only [ek_]; omega) | (simp; done) | (simp; omega)) (fun _ => by first | rfl | omega | (simp only [ek_]; omega) | (simp; done) | (simp; omega)) ((dt0 rfl (Nat.le_refl _)).trans ((by first | exact hl' | (rw [← hl']; done) | (rw [← hl']; simp; done) | (rw [← hl']; apply List.ext_getElem?; intro j; simp [eg_, ee_, ef_]; omega) | (rw [← hl']; first | rfl | (apply List.ext_getElem?; intro i; first | (simp only [ea_, eb_, ec_, ed_, ee_, ef_, eg_, eh_, ei_, ej_, ek_, el_, em_]; done) | ((try simp only [ea_, eb_, ec_, ed_, ee_, ef_, eg_, eh_, ei_, ej_, ek_, el_, em_]); (repeat' split) <;> first | rfl | (congr 1; omega) | (exfalso; omega) | (exact ep_ (by omega)) | (exact (ep_ (by omega)).symm))))))) x)
  exact ⟨rfl, (On.pick [0, 3] [1, 2] (by kernel_rfl) hs57)⟩
 have hcall58 : Runs pg an 58 [.one (rowC k13 d14 L15.length o16 l.length cd17), .one (vi i)] H7 [.one (rowC k13 d14 L15.length o16 ((l.take ((i : Int).toNat)).length) true)] H7 := by
  refine runs_of ?_
  refine rOF Try.func58 rfl ?_
  refine rs0 [(0, .y (.one (rowC k13 d14 L15.length o16 l.length cd17))), (1, xi i)] ?_
  refine wS ?_
  refine rSz [(0, .y (.one (rowC k13 d14 L15.length o16 l.length cd17))), (1, xi i), (6, xb false)] H7 (zL 1 (Ja (vals := [xi i, xi 0]) (H := H7) (op := .binOp .eql 3 (.tmp 0) (.tmp 1) 3) (ty := 0) (r := xb ((i : Int) == 0)) (v := xb false) (by kernel_rfl) (congrArg (fun z => xb z) (beq_f (by omega))))) ?_
  refine wFk ?_
  refine rSz [(4, .y (.one (rowC k13 d14 L15.length o16 ((l.take ((i : Int).toNat)).length) true)))] H7 (zA 3 (Jr (H := H7) (s := EN) (t := 23) (el := 40) (ty := 0) (pu := true) (id := k13) (d := d14) (o := o16) (n := l.length) (l := L15) (capd := cd17) (n' := ((l.take ((i : Int).toNat)).length)) (h := i) (On.at hs10 3 rfl) (by kernel_rfl) (by kernel_rfl) (by omega) (by first | rfl | omega | (simp only [ek_]; omega) | (simp; done) | (simp; omega)) (by first | rfl | omega | (simp only [ek_]; omega) | (simp; done) | (simp; omega)) (by first | rfl | omega | (simp only [ek_]; omega) | (simp; done) | (simp; omega))) (zA 6 (qoAdd H7 i 1 (i + 1)) (zA 7 (Ju (H := H7) (s := EN) (t := 23) (el := 40) (ty := 0) (pu := true) (id := k13) (d := d14) (o := o16) (n := l.length) (l := L15) (capd := cd17) (o' := ((((o16 : Int) + i + 1) : Int).toNat)) (n' := ((l.drop (((i + 1) : Int).toNat)).length)) (a := (i + 1)) (On.at hs10 3 rfl) (by kernel_rfl) (by kernel_rfl) (by omega) (by first | rfl | omega | (simp only [ek_]; omega) | (simp; done) | (simp; omega)) (by first | rfl | omega | (simp only [ek_]; omega) | (simp; done) | (simp; omega)) (by first | rfl | omega | (simp only [ek_]; omega) | (simp; done) | (simp; omega)) (by first | rfl | omega | (simp only [ek_]; omega) | (simp; done) | (simp; omega))) (zL 8 (Jo (H := H7) (t := 23) (u := 23) (el := 40) (by_ := 24) (z := [vi 0, vi 0, vb false]) (ty := 0) (sz := 3) (c := rowC k13 d14 L15.length o16 ((l.take ((i : Int).toNat)).length) true) (y := rowC k13 d14 L15.length ((((o16 : Int) + i + 1) : Int).toNat) ((l.drop (((i + 1) : Int).toNat)).length) cd17) (cs := (l.take ((i : Int).toNat)).flatMap (enc EN)) (n := ((l.take ((i : Int).toNat)).length)) (pu := true) (cs' := (l.drop (((i + 1) : Int).toNat)).flatMap (enc EN)) (puy := true) (slCells_rowO (H := H7) (s := EN) (pu := true) (capd := true) (id := k13) (d := d14) (o := o16) (n := ((l.take ((i : Int).toNat)).length)) (l := L15) (m := (l.take ((i : Int).toNat))) (On.at hs10 3 rfl) (by first | rfl | omega | (simp only [ek_]; omega) | (simp; done) | (simp; omega)) ((content_sub (a := 0) (n' := (l.take ((i : Int).toNat)).length) (hl20) (by first | rfl | omega | (simp only [ek_]; omega) | (simp; done) | (simp; omega)) (by first | rfl | omega | (simp only [ek_]; omega) | (simp; done) | (simp; omega))).trans (take_len (by first | rfl | omega | (simp only [ek_]; omega) | (simp; done) | (simp; omega))))) (((slCells_rowO (H := H7) (s := EN) (pu := true) (capd := cd17) (id := k13) (d := d14) (o := ((((o16 : Int) + i + 1) : Int).toNat)) (n := ((l.drop (((i + 1) : Int).toNat)).length)) (l := L15) (m := (l.drop (((i + 1) : Int).toNat))) (On.at hs10 3 rfl) (by first | rfl | omega | (simp only [ek_]; omega) | (simp; done) | (simp; omega)) ((content_sub (a := (((i + 1) : Int).toNat)) (n' := (l.drop (((i + 1) : Int).toNat)).length) (hl20) (by first | rfl | omega | (simp only [ek_]; omega) | (simp; done) | (simp; omega)) (by first | rfl | omega | (simp only [ek_]; omega) | (simp; done) | (simp; omega))).trans (dt1 (by first | rfl | omega | (simp only [ek_]; omega) | (simp; done) | (simp; omega)) (by first | rfl | omega | (simp only [ek_]; omega) | (simp; done) | (simp; omega)))))).trans (by rw [show ((l.drop (((i + 1) : Int).toNat)).length) = 0 from by first | rfl | omega | (simp only [ek_]; omega) | (simp; done) | (simp; omega)])) (by kernel_rfl) (by kernel_rfl) (by kernel_rfl) (by kernel_rfl) (by kernel_rfl) (by kernel_rfl)))))) ?_
  refine wE ?_
  exact ⟨Or.inr rfl, [.one (rowC k13 d14 L15.length o16 ((l.take ((i : Int).toNat)).length) true)], (by kernel_rfl), ⟨rfl, rfl⟩⟩
 refine rGz [(4, yp n1)] (On.put (.obj [vi room, rowC k13 d14 L15.length o16 ((l.take ((i : Int).toNat)).length) true]) hs10 2 rfl) (zA 4 (qL 23 1 (.one (rowC k13 d14 L15.length o16 l.length cd17)) (On.at hs10 2 rfl)) (zA 6 (qC2 hcall58) (zL 9 (qS 23 1 (.one (rowC k13 d14 L15.length o16 ((l.take ((i : Int).toNat)).length) true)) (On.at hs10 2 rfl))))) fun H61 hs62 => ?_
 refine rGz [(4, yp n1), (5, xi 0)] (On.put (.obj [vi x.1.1, vi x.1.2.1, vb x.2.1]) hs62 1 rfl) (zA 0 (qA 40 (On.at hs62 1 rfl)) (zL 1 (qS 40 0 (.agg [vi x.1.1, vi x.1.2.1, vb x.2.1]) (On.at hs62 1 rfl)))) fun H63 hs64 => ?_
 refine wE ?_
 refine ⟨Or.inr rfl, [.agg [vi x.1.1, vi x.1.2.1, vb x.2.1], .one (vi 0)], (rC (On.at hs64 1 rfl)), ?_⟩
 have hs65 : On [R, pts n1 (.obj [vi x.1.1, vi x.1.2.1, vb x.2.1]), ringP EN q room l'] H63 := sH hs64 [2, 3] [0, 1] (fun _ x => ring_row ⟨by omega, by omega, by first | rfl | omega | (simp only [ek_]; omega) | (simp; done) | (simp; omega)⟩ (by first | rfl | omega | (simp only [ek_]; omega) | (simp; done) | (simp; omega)) (by first | rfl | omega | (simp only [ek_]; omega) | (simp; done) | (simp; omega)) (fun h => by cases h) (((content_sub (a := 0) (n' := (l.take ((i : Int).toNat)).length) (hl20) (by first | rfl | omega | (simp only [ek_]; omega) | (simp; done) | (simp; omega)) (by first | rfl | omega | (simp only [ek_]; omega) | (simp; done) | (simp; omega))).trans (take_len (by first | rfl | omega | (simp only [ek_]; omega) | (simp; done) | (simp; omega)))).trans ((by first | exact hl' | (rw [← hl']; done) | (rw [← hl']; simp; done) | (rw [← hl']; apply List.ext_getElem?; intro j; simp [eg_, ee_, ef_]; omega) | (rw [← hl']; first | rfl | (apply List.ext_getElem?; intro i; first | (simp only [ea_, eb_, ec_, ed_, ee_, ef_, eg_, eh_, ei_, ej_, ek_, el_, em_]; done) | ((try simp only [ea_, eb_, ec_, ed_, ee_, ef_, eg_, eh_, ei_, ej_, ek_, el_, em_]); (repeat' split) <;> first | rfl | (congr 1; omega) | (exfalso; omega) | (exact ep_ (by omega)) | (exact (ep_ (by omega)).symm))))))) x)
 exact ⟨rfl, (On.pick [0, 2] [1] (by kernel_rfl) hs65)⟩
theorem pop_ok (R : HP) (H : HH) (q : Nat) (room : Int) (l : List EN.T) (x : EN.T) (hs : On [R, ringP EN q room l] H) (h1 : 0 < l.length) (hx : l[0]? = some x) : ∃ rs H', Runs pg an 34 [.one (.ptr q 0)] H rs H' ∧ rs = [.agg [vi x.1.1, vi x.1.2.1, vb x.2.1], .one (vi 0)] ∧ On [R, ringP EN q room (l.drop 1)] H' := by
 refine rOF Try.func34 rfl ?_
 obtain ⟨n1, hn1⟩ := lX H
 refine rGz [(0, yp q), (2, yp n1)] (On.new' hn1 (.obj [vi 0, vi 0, vb false]) hs) (zL 0 (qO 40 [vi 0, vi 0, vb false] hn1)) fun H2 hs3 => ?_
 have hlfz4 : ((l.drop 1).length : Int) = ((l.length : Int) - 1) := by { first | rfl | omega | (simp only [ek_]; omega) | (simp; done) | (simp; omega) }
 obtain ⟨_, H6, hr7, rfl, hs8⟩ := take_ok _ (H2 : HH) (On.call [1] [0, 2] (by kernel_rfl) hs3) (q := q) (room := room) (l := l) (i := 0) (x := x) (by omega) (by first | rfl | omega | (simp only [ek_]; omega) | (simp; done) | (simp; omega)) hx (l' := (l.drop 1)) (by simp)
 have hs8 : On [R, pts n1 (.obj [vi 0, vi 0, vb false]), ringP EN q room (l.drop 1)] H6 := On.flat hs8
 refine rGz [(2, yp n1), (3, xi 0)] (On.put (.obj [vi x.1.1, vi x.1.2.1, vb x.2.1]) hs8 1 rfl) (zA 1 (qC2 hr7) (zL 4 (qS 40 0 (.agg [vi x.1.1, vi x.1.2.1, vb x.2.1]) (On.at hs8 1 rfl)))) fun H9 hs10 => ?_
 refine wE ?_
 refine ⟨Or.inr rfl, [.agg [vi x.1.1, vi x.1.2.1, vb x.2.1], .one (vi 0)], (rC (On.at hs10 1 rfl)), ?_⟩
 exact ⟨rfl, (On.pick [0, 2] [1] (by kernel_rfl) hs10)⟩
theorem items_ok (R : HP) (H : HH) (q : Nat) (room : Int) (l : List EN.T) (hs : On [R, ringP EN q room l] H) : ∃ rs H', Runs pg an 55 [.one (.ptr q 0)] H rs H' ∧ ∃ k', rs = [.one (rft k' l)] ∧ On [R, ringP EN q room l, pts k' (rowO EN true 0 l)] H' := by
 obtain ⟨⟨hb3a, hb3b, hb3c⟩, ⟨hl4, hs1⟩ | ⟨k5, d6, L7, o8, cd9, ho10, hc11, hl12, hs2⟩⟩ := ring_open hs 1 rfl
 ·
  have hl4n : (l.length : Int) = 0 := by rw [hl4]; rfl
  refine rOF Try.func55 rfl ?_
  refine rs0 [(0, yp q)] ?_
  refine wS ?_
  have hcall13 : Runs pg an 53 [.one (.ptr q 0)] H [.one (vb true)] H := by
   refine runs_of ?_
   refine rOF Try.func53 rfl ?_
   refine rs0 [(0, yp q)] ?_
   refine rSz [(2, xb true)] H (zA 6 (qL 3 0 (.one (vi room)) (On.at hs1 1 rfl)) (zL 7 (qgtrT H room 0))) ?_
   refine wE ?_
   exact ⟨Or.inr rfl, [.one (vb true)], (by kernel_rfl), ⟨rfl, rfl⟩⟩
  refine rSz [(0, yp q), (5, xb false)] H (zL 1 (qC1 hcall13)) ?_
  refine wFk ?_
  obtain ⟨_, H15, hr16, k14, rfl, hs17⟩ := own_nil _ (H : HH) (On.call [] [0, 1] (by kernel_rfl) hs1)
  have hs17 : On [R, pts q (.obj [vi room, nilC]), pts k14 (rowO EN true 0 ([] : List EN.T))] H15 := On.flat hs17
  refine rGz [(2, .y (.one (rowC k14 0 ([] : List EN.T).length 0 (([] : List EN.T).length) true)))] hs17 (zA 3 (qL 23 1 (.one (nilC)) (On.at hs1 1 rfl)) (zL 4 (qC1 hr16))) fun H18 hs19 => ?_
  refine wE ?_
  refine ⟨Or.inr rfl, [.one (rowC k14 0 ([] : List EN.T).length 0 (([] : List EN.T).length) true)], (by kernel_rfl), ?_⟩
  have hs20 : On [R, pts k14 (rowO EN true 0 ([] : List EN.T)), ringP EN q room l] H18 := sH hs19 [1] [0, 2] (fun _ x => ring_nil' (hl4) ⟨by omega, by omega⟩ x)
  have hs21 := (On.pick [0, 2, 1] [] (by kernel_rfl) hs20)
  exact ⟨k14, congrArg (fun z : List EN.T => [Y.one (rft k14 z)]) (Eq.symm hl4), Eq.mp (congrArg (fun z : List EN.T => On [R, ringP EN q room l, pts k14 (rowO EN true 0 z)] _) (Eq.symm hl4)) hs21⟩
 refine rOF Try.func55 rfl ?_
 refine rs0 [(0, yp q)] ?_
 refine wS ?_
 have hcall22 : Runs pg an 53 [.one (.ptr q 0)] H [.one (vb true)] H := by
  refine runs_of ?_
  refine rOF Try.func53 rfl ?_
  refine rs0 [(0, yp q)] ?_
  refine rSz [(2, xb true)] H (zA 6 (qL 3 0 (.one (vi room)) (On.at hs2 1 rfl)) (zL 7 (qgtrT H room 0))) ?_
  refine wE ?_
  exact ⟨Or.inr rfl, [.one (vb true)], (by kernel_rfl), ⟨rfl, rfl⟩⟩
 refine rSz [(0, yp q), (5, xb false)] H (zL 1 (qC1 hcall22)) ?_
 refine wFk ?_
 obtain ⟨_, H24, hr25, k23, rfl, hs26⟩ := own_row _ (H : HH) (On.call [2] [0, 1] (by kernel_rfl) hs2) (k := k5) (d := d6) (o := o8) (capd := cd9) (L := L7) (l := l) (by first | rfl | omega | (simp only [ek_]; omega) | (simp; done) | (simp; omega)) (hl12) (by first | rfl | omega | (simp only [ek_]; omega) | (simp; done) | (simp; omega))
 have hs26 : On [R, pts q (.obj [vi room, rowC k5 d6 L7.length o8 l.length cd9]), pts k5 (rowO EN true d6 L7), pts k23 (rowO EN true 0 l)] H24 := On.flat hs26
 refine rGz [(2, .y (.one (rft k23 l)))] hs26 (zA 3 (qL 23 1 (.one (rowC k5 d6 L7.length o8 l.length cd9)) (On.at hs2 1 rfl)) (zL 4 (qC1 hr25))) fun H27 hs28 => ?_
 refine wE ?_
 refine ⟨Or.inr rfl, [.one (rft k23 l)], (by kernel_rfl), ?_⟩
 have hs29 : On [R, pts k23 (rowO EN true 0 l), ringP EN q room l] H27 := sH hs28 [1, 2] [0, 3] (fun _ x => ring_row ⟨by omega, by omega, by first | rfl | omega | (simp only [ek_]; omega) | (simp; done) | (simp; omega)⟩ (by first | rfl | omega | (simp only [ek_]; omega) | (simp; done) | (simp; omega)) (by first | rfl | omega | (simp only [ek_]; omega) | (simp; done) | (simp; omega)) (fun h => by have := hc11 h; first | rfl | omega | (simp only [ek_]; omega) | (simp; done) | (simp; omega)) (hl12) x)
 have hs30 := (On.pick [0, 2, 1] [] (by kernel_rfl) hs29)
 exact ⟨k23, rfl, hs30⟩
theorem copy_ok (R : HP) (H : HH) (q : Nat) (room : Int) (l : List EN.T) (hs : On [R, ringP EN q room l] H) : ∃ rs H', Runs pg an 65 [.one (.ptr q 0)] H rs H' ∧ ∃ q', rs = [.one (.ptr q' 0)] ∧ On [R, ringP EN q room l, ringP EN q' room l] H' := by
 obtain ⟨⟨hb3a, hb3b, hb3c⟩, ⟨hl4, hs1⟩ | ⟨k5, d6, L7, o8, cd9, ho10, hc11, hl12, hs2⟩⟩ := ring_open hs 1 rfl
 ·
  have hl4n : (l.length : Int) = 0 := by rw [hl4]; rfl
  refine rOF Try.func65 rfl ?_
  refine rs0 [(0, yp q)] ?_
  refine wS ?_
  have hcall13 : Runs pg an 53 [.one (.ptr q 0)] H [.one (vb true)] H := by
   refine runs_of ?_
   refine rOF Try.func53 rfl ?_
   refine rs0 [(0, yp q)] ?_
   refine rSz [(2, xb true)] H (zA 6 (qL 3 0 (.one (vi room)) (On.at hs1 1 rfl)) (zL 7 (qgtrT H room 0))) ?_
   refine wE ?_
   exact ⟨Or.inr rfl, [.one (vb true)], (by kernel_rfl), ⟨rfl, rfl⟩⟩
  refine rSz [(0, yp q), (5, xb false)] H (zL 1 (qC1 hcall13)) ?_
  refine wFk ?_
  obtain ⟨_, H15, hr16, k14, rfl, hs17⟩ := own_nil _ ((hideH [q] H) : HH) (On.call [] [0, 1] (by kernel_rfl) (On.hide1 hs1 1 rfl))
  have hs17 : On [R, pts q (.map (.fro [vi room, nilC])), pts k14 (rowO EN true 0 ([] : List EN.T))] H15 := On.flat hs17
  obtain ⟨n18, hn18⟩ := lX (backH [q] H H15)
  refine rSq [(3, xi room, H), (7, .y (.one (nilC)), H), (8, .y (.one (rowC k14 0 ([] : List EN.T).length 0 (([] : List EN.T).length) true)), (backH [q] H H15)), (10, yp n18, ((backH [q] H H15) ++ [.obj [vi room, rowC k14 0 ([] : List EN.T).length 0 (([] : List EN.T).length) true]]))] [(2, yp n18)] ((backH [q] H H15) ++ [.obj [vi room, rowC k14 0 ([] : List EN.T).length 0 (([] : List EN.T).length) true]])
    (cast (Jai (ob_ins (H := H) (Jg (t := 3) (off := 0) (v := .one (vi room)) (onlyH_at (M := [q]) (by simp) (On.at hs1 1 rfl)) (by kernel_rfl))) (Jai (Jg (t := 23) (off := 1) (v := .one (nilC)) (On.at hs1 1 rfl) (by kernel_rfl)) (Jai (ob_out (M := [q]) (H := H) (H' := H15) (H2 := (backH [q] H H15)) (mayHide1 (On.at hs1 1 rfl) rfl) (Jp hr16 (by kernel_rfl)) rfl) (JZ (Jc1 (H := (backH [q] H H15)) (t := 105) (ty := 0) (n := n18) (v := .agg [vi room, rowC k14 0 ([] : List EN.T).length 0 (([] : List EN.T).length) true]) (cs := [vi room, rowC k14 0 ([] : List EN.T).length 0 (([] : List EN.T).length) true]) hn18 (by kernel_rfl) (by kernel_rfl) (by kernel_rfl)))))) (by kernel_rfl)) (by kernel_rfl) ?_
  refine wG (On.new' hn18 (.obj [vi room, rowC k14 0 ([] : List EN.T).length 0 (([] : List EN.T).length) true]) (On.back1 hs17 1 rfl (On.at hs1 1 rfl))) fun H19 hs20 => ?_
  refine wE ?_
  refine ⟨Or.inr rfl, [.one (.ptr n18 0)], (by kernel_rfl), ?_⟩
  have hs21 : On [R, pts k14 (rowO EN true 0 ([] : List EN.T)), pts n18 (.obj [vi room, rowC k14 0 ([] : List EN.T).length 0 (([] : List EN.T).length) true]), ringP EN q room l] H19 := sH hs20 [1] [0, 2, 3] (fun _ x => ring_nil' (hl4) ⟨by omega, by omega⟩ x)
  have hs22 : On [R, ringP EN q room l, ringP EN n18 room l] H19 := sH hs21 [2, 1] [0, 3] (fun _ x => ring_row ⟨by omega, by omega, by first | rfl | omega | (simp only [ek_]; omega) | (simp; done) | (simp; omega)⟩ (by first | rfl | omega | (simp only [ek_]; omega) | (simp; done) | (simp; omega)) (by first | rfl | omega | (simp only [ek_]; omega) | (simp; done) | (simp; omega)) (fun h => by cases h) ((rfl).trans (Eq.symm hl4)) x)
  exact ⟨n18, rfl, (On.pick [0, 1, 2] [] (by kernel_rfl) hs22)⟩
 refine rOF Try.func65 rfl ?_
 refine rs0 [(0, yp q)] ?_
 refine wS ?_
 have hcall23 : Runs pg an 53 [.one (.ptr q 0)] H [.one (vb true)] H := by
  refine runs_of ?_
  refine rOF Try.func53 rfl ?_
  refine rs0 [(0, yp q)] ?_
  refine rSz [(2, xb true)] H (zA 6 (qL 3 0 (.one (vi room)) (On.at hs2 1 rfl)) (zL 7 (qgtrT H room 0))) ?_
  refine wE ?_
  exact ⟨Or.inr rfl, [.one (vb true)], (by kernel_rfl), ⟨rfl, rfl⟩⟩
 refine rSz [(0, yp q), (5, xb false)] H (zL 1 (qC1 hcall23)) ?_
 refine wFk ?_
 obtain ⟨_, H25, hr26, k24, rfl, hs27⟩ := own_row _ ((hideH [q] H) : HH) (On.call [2] [0, 1] (by kernel_rfl) (On.hide1 hs2 1 rfl)) (k := k5) (d := d6) (o := o8) (capd := cd9) (L := L7) (l := l) (by first | rfl | omega | (simp only [ek_]; omega) | (simp; done) | (simp; omega)) (hl12) (by first | rfl | omega | (simp only [ek_]; omega) | (simp; done) | (simp; omega))
 have hs27 : On [R, pts q (.map (.fro [vi room, rowC k5 d6 L7.length o8 l.length cd9])), pts k5 (rowO EN true d6 L7), pts k24 (rowO EN true 0 l)] H25 := On.flat hs27
 obtain ⟨n28, hn28⟩ := lX (backH [q] H H25)
 refine rSq [(3, xi room, H), (7, .y (.one (rowC k5 d6 L7.length o8 l.length cd9)), H), (8, .y (.one (rft k24 l)), (backH [q] H H25)), (10, yp n28, ((backH [q] H H25) ++ [.obj [vi room, rft k24 l]]))] [(2, yp n28)] ((backH [q] H H25) ++ [.obj [vi room, rft k24 l]])
   (cast (Jai (ob_ins (H := H) (Jg (t := 3) (off := 0) (v := .one (vi room)) (onlyH_at (M := [q]) (by simp) (On.at hs2 1 rfl)) (by kernel_rfl))) (Jai (Jg (t := 23) (off := 1) (v := .one (rowC k5 d6 L7.length o8 l.length cd9)) (On.at hs2 1 rfl) (by kernel_rfl)) (Jai (ob_out (M := [q]) (H := H) (H' := H25) (H2 := (backH [q] H H25)) (mayHide1 (On.at hs2 1 rfl) (by have g0 := lt_of_get (On.at hs2 2 rfl); simp [O.inH, C.inH, g0])) (Jp hr26 (by kernel_rfl)) rfl) (JZ (Jc1 (H := (backH [q] H H25)) (t := 105) (ty := 0) (n := n28) (v := .agg [vi room, rft k24 l]) (cs := [vi room, rft k24 l]) hn28 (by kernel_rfl) (by kernel_rfl) (by kernel_rfl)))))) (by kernel_rfl)) (by kernel_rfl) ?_
 refine wG (On.new' hn28 (.obj [vi room, rft k24 l]) (On.back1 hs27 1 rfl (On.at hs2 1 rfl))) fun H29 hs30 => ?_
 refine wE ?_
 refine ⟨Or.inr rfl, [.one (.ptr n28 0)], (by kernel_rfl), ?_⟩
 have hs31 : On [R, pts k24 (rowO EN true 0 l), pts n28 (.obj [vi room, rft k24 l]), ringP EN q room l] H29 := sH hs30 [1, 2] [0, 3, 4] (fun _ x => ring_row ⟨by omega, by omega, by first | rfl | omega | (simp only [ek_]; omega) | (simp; done) | (simp; omega)⟩ (by first | rfl | omega | (simp only [ek_]; omega) | (simp; done) | (simp; omega)) (by first | rfl | omega | (simp only [ek_]; omega) | (simp; done) | (simp; omega)) (fun h => by have := hc11 h; first | rfl | omega | (simp only [ek_]; omega) | (simp; done) | (simp; omega)) (hl12) x)
 have hs32 : On [R, ringP EN q room l, ringP EN n28 room l] H29 := sH hs31 [2, 1] [0, 3] (fun _ x => ring_row ⟨by omega, by omega, by first | rfl | omega | (simp only [ek_]; omega) | (simp; done) | (simp; omega)⟩ (by first | rfl | omega | (simp only [ek_]; omega) | (simp; done) | (simp; omega)) (by first | rfl | omega | (simp only [ek_]; omega) | (simp; done) | (simp; omega)) (fun h => by cases h) (dt0 rfl (Nat.le_refl _)) x)
 exact ⟨n28, rfl, (On.pick [0, 1, 2] [] (by kernel_rfl) hs32)⟩
theorem cut_neg (R : HP) (H : HH) (q : Nat) (room : Int) (l : List EN.T) (i : Int) (hs : On [R, ringP EN q room l] H) (h0 : i < 0) : ∃ rs H', Runs pg an 43 [.one (.ptr q 0), .one (vi i)] H rs H' ∧ rs = [.one (nilC), .one (vi 1)] ∧ On [R, ringP EN q room l] H' := by
 obtain ⟨⟨hb3a, hb3b, hb3c⟩, ⟨hl4, hs1⟩ | ⟨k5, d6, L7, o8, cd9, ho10, hc11, hl12, hs2⟩⟩ := ring_open hs 1 rfl
 ·
  have hl4n : (l.length : Int) = 0 := by rw [hl4]; rfl
  refine rOF Try.func43 rfl ?_
  refine rs0 [(0, yp q), (1, xi i)] ?_
  refine wS ?_
  have hcall13 : Runs pg an 53 [.one (.ptr q 0)] H [.one (vb true)] H := by
   refine runs_of ?_
   refine rOF Try.func53 rfl ?_
   refine rs0 [(0, yp q)] ?_
   refine rSz [(2, xb true)] H (zA 6 (qL 3 0 (.one (vi room)) (On.at hs1 1 rfl)) (zL 7 (qgtrT H room 0))) ?_
   refine wE ?_
   exact ⟨Or.inr rfl, [.one (vb true)], (by kernel_rfl), ⟨rfl, rfl⟩⟩
  refine rSz [(0, yp q), (1, xi i), (14, xb true)] H (zA 1 (qC1 hcall13) (zL 5 (qlssT H i 0))) ?_
  refine wTa ?_
  refine rs0 [(4, .y (.one (nilC))), (5, xi 1)] ?_
  refine wE ?_
  refine ⟨Or.inr rfl, [.one (nilC), .one (vi 1)], (by kernel_rfl), ?_⟩
  have hs14 : On [R, ringP EN q room l] H := sH hs1 [1] [0] (fun _ x => ring_nil' (hl4) ⟨by omega, by omega⟩ x)
  exact ⟨rfl, (On.pick [0, 1] [] (by kernel_rfl) hs14)⟩
 refine rOF Try.func43 rfl ?_
 refine rs0 [(0, yp q), (1, xi i)] ?_
 refine wS ?_
 have hcall15 : Runs pg an 53 [.one (.ptr q 0)] H [.one (vb true)] H := by
  refine runs_of ?_
  refine rOF Try.func53 rfl ?_
  refine rs0 [(0, yp q)] ?_
  refine rSz [(2, xb true)] H (zA 6 (qL 3 0 (.one (vi room)) (On.at hs2 1 rfl)) (zL 7 (qgtrT H room 0))) ?_
  refine wE ?_
  exact ⟨Or.inr rfl, [.one (vb true)], (by kernel_rfl), ⟨rfl, rfl⟩⟩
 refine rSz [(0, yp q), (1, xi i), (14, xb true)] H (zA 1 (qC1 hcall15) (zL 5 (qlssT H i 0))) ?_
 refine wTa ?_
 refine rs0 [(4, .y (.one (nilC))), (5, xi 1)] ?_
 refine wE ?_
 refine ⟨Or.inr rfl, [.one (nilC), .one (vi 1)], (by kernel_rfl), ?_⟩
 have hs16 : On [R, ringP EN q room l] H := sH hs2 [1, 2] [0] (fun _ x => ring_row ⟨by omega, by omega, by first | rfl | omega | (simp only [ek_]; omega) | (simp; done) | (simp; omega)⟩ (by first | rfl | omega | (simp only [ek_]; omega) | (simp; done) | (simp; omega)) (by first | rfl | omega | (simp only [ek_]; omega) | (simp; done) | (simp; omega)) (fun h => by have := hc11 h; first | rfl | omega | (simp only [ek_]; omega) | (simp; done) | (simp; omega)) (hl12) x)
 exact ⟨rfl, (On.pick [0, 1] [] (by kernel_rfl) hs16)⟩
theorem cut_none (R : HP) (H : HH) (q : Nat) (room : Int) (l : List EN.T) (i : Int) (hs : On [R, ringP EN q room l] H) (h0 : l.length < i) (h1 : i ≤ 9223372036854775807) : ∃ rs H', Runs pg an 43 [.one (.ptr q 0), .one (vi i)] H rs H' ∧ rs = [.one (nilC), .one (vi 3)] ∧ On [R, ringP EN q room l] H' := by
 obtain ⟨⟨hb3a, hb3b, hb3c⟩, ⟨hl4, hs1⟩ | ⟨k5, d6, L7, o8, cd9, ho10, hc11, hl12, hs2⟩⟩ := ring_open hs 1 rfl
 ·
  have hl4n : (l.length : Int) = 0 := by rw [hl4]; rfl
  refine rOF Try.func43 rfl ?_
  refine rs0 [(0, yp q), (1, xi i)] ?_
  refine wS ?_
  have hcall13 : Runs pg an 53 [.one (.ptr q 0)] H [.one (vb true)] H := by
   refine runs_of ?_
   refine rOF Try.func53 rfl ?_
   refine rs0 [(0, yp q)] ?_
   refine rSz [(2, xb true)] H (zA 6 (qL 3 0 (.one (vi room)) (On.at hs1 1 rfl)) (zL 7 (qgtrT H room 0))) ?_
   refine wE ?_
   exact ⟨Or.inr rfl, [.one (vb true)], (by kernel_rfl), ⟨rfl, rfl⟩⟩
  refine rSz [(0, yp q), (1, xi i), (14, xb false)] H (zA 1 (qC1 hcall13) (zL 5 (qlssF H i 0))) ?_
  refine wFk ?_
  refine rSz [(0, yp q), (6, xi (-i))] H (zA 3 (qL 23 1 (.one (nilC)) (On.at hs1 1 rfl)) (zL 6 (qoSub H 0 i (-i)))) ?_
  refine wS ?_
  refine rSz [(0, yp q), (6, xi (-i)), (23, xb true)] H (zL 1 (qlssT H (-i) 0)) ?_
  refine wTa ?_
  refine rs0 [(4, .y (.one (nilC))), (5, xi 3)] ?_
  refine wE ?_
  refine ⟨Or.inr rfl, [.one (nilC), .one (vi 3)], (by kernel_rfl), ?_⟩
  have hs14 : On [R, ringP EN q room l] H := sH hs1 [1] [0] (fun _ x => ring_nil' (hl4) ⟨by omega, by omega⟩ x)
  exact ⟨rfl, (On.pick [0, 1] [] (by kernel_rfl) hs14)⟩
 refine rOF Try.func43 rfl ?_
 refine rs0 [(0, yp q), (1, xi i)] ?_
 refine wS ?_
 have hcall15 : Runs pg an 53 [.one (.ptr q 0)] H [.one (vb true)] H := by
  refine runs_of ?_
  refine rOF Try.func53 rfl ?_
  refine rs0 [(0, yp q)] ?_
  refine rSz [(2, xb true)] H (zA 6 (qL 3 0 (.one (vi room)) (On.at hs2 1 rfl)) (zL 7 (qgtrT H room 0))) ?_
  refine wE ?_
  exact ⟨Or.inr rfl, [.one (vb true)], (by kernel_rfl), ⟨rfl, rfl⟩⟩
 refine rSz [(0, yp q), (1, xi i), (14, xb false)] H (zA 1 (qC1 hcall15) (zL 5 (qlssF H i 0))) ?_
 refine wFk ?_
 refine rSz [(0, yp q), (6, xi ((l.length : Int) - i))] H (zA 3 (qL 23 1 (.one (rowC k5 d6 L7.length o8 l.length cd9)) (On.at hs2 1 rfl)) (zA 4 (Jc (H := H) (s := EN) (t := 23) (ty := 0) (pu := true) (capd := cd9) (id := k5) (d := d6) (o := o8) (n := l.length) (l := L7) (e := (l.length : Int)) (On.at hs2 2 rfl) (by kernel_rfl) (by first | rfl | omega | (simp only [ek_]; omega) | (simp; done) | (simp; omega))) (zL 6 (qoSub H (l.length : Int) i ((l.length : Int) - i))))) ?_
 refine wS ?_
 refine rSz [(0, yp q), (6, xi ((l.length : Int) - i)), (23, xb true)] H (zL 1 (qlssT H ((l.length : Int) - i) 0)) ?_
 refine wTa ?_
 refine rs0 [(4, .y (.one (nilC))), (5, xi 3)] ?_
 refine wE ?_
 refine ⟨Or.inr rfl, [.one (nilC), .one (vi 3)], (by kernel_rfl), ?_⟩
 have hs16 : On [R, ringP EN q room l] H := sH hs2 [1, 2] [0] (fun _ x => ring_row ⟨by omega, by omega, by first | rfl | omega | (simp only [ek_]; omega) | (simp; done) | (simp; omega)⟩ (by first | rfl | omega | (simp only [ek_]; omega) | (simp; done) | (simp; omega)) (by first | rfl | omega | (simp only [ek_]; omega) | (simp; done) | (simp; omega)) (fun h => by have := hc11 h; first | rfl | omega | (simp only [ek_]; omega) | (simp; done) | (simp; omega)) (hl12) x)
 exact ⟨rfl, (On.pick [0, 1] [] (by kernel_rfl) hs16)⟩
theorem cut_ok (R : HP) (H : HH) (q : Nat) (room : Int) (l : List EN.T) (i : Int) (hs : On [R, ringP EN q room l] H) (h0 : 0 ≤ i) (h1 : i ≤ l.length) : ∃ rs H', Runs pg an 43 [.one (.ptr q 0), .one (vi i)] H rs H' ∧ ∃ k', rs = [.one (rowC k' 0 (l.drop ((l.length : Int) - i).toNat).length 0 (l.drop ((l.length : Int) - i).toNat).length true), .one (vi 0)] ∧ On [R, ringP EN q room (l.take ((l.length : Int) - i).toNat), pts k' (rowO EN true 0 (l.drop ((l.length : Int) - i).toNat))] H' := by
 have hle1 : ((l.take ((l.length : Int) - i).toNat).length : Int) = l.length - i := by rw [eh_]; omega
 obtain ⟨⟨hb3a, hb3b, hb3c⟩, ⟨hl4, hs1⟩ | ⟨k5, d6, L7, o8, cd9, ho10, hc11, hl12, hs2⟩⟩ := ring_open hs 1 rfl
 ·
  have hl4n : (l.length : Int) = 0 := by rw [hl4]; rfl
  refine rOF Try.func43 rfl ?_
  refine rs0 [(0, yp q), (1, xi i)] ?_
  refine wS ?_
  have hcall13 : Runs pg an 53 [.one (.ptr q 0)] H [.one (vb true)] H := by
   refine runs_of ?_
   refine rOF Try.func53 rfl ?_
   refine rs0 [(0, yp q)] ?_
   refine rSz [(2, xb true)] H (zA 6 (qL 3 0 (.one (vi room)) (On.at hs1 1 rfl)) (zL 7 (qgtrT H room 0))) ?_
   refine wE ?_
   exact ⟨Or.inr rfl, [.one (vb true)], (by kernel_rfl), ⟨rfl, rfl⟩⟩
  refine rSz [(0, yp q), (1, xi i), (14, xb false)] H (zA 1 (qC1 hcall13) (zL 5 (qlssF H i 0))) ?_
  refine wFk ?_
  refine rSz [(0, yp q), (6, xi (-i))] H (zA 3 (qL 23 1 (.one (nilC)) (On.at hs1 1 rfl)) (zL 6 (qoSub H 0 i (-i)))) ?_
  refine wS ?_
  refine rSz [(0, yp q), (6, xi (-i)), (23, xb false)] H (zL 1 (qlssF H (-i) 0)) ?_
  refine wFk ?_
  obtain ⟨_, H15, hr16, k14, rfl, hs17⟩ := own_nil _ (H : HH) (On.call [] [0, 1] (by kernel_rfl) hs1)
  have hs17 : On [R, pts q (.obj [vi room, nilC]), pts k14 (rowO EN true 0 ([] : List EN.T))] H15 := On.flat hs17
  refine rGz [(0, yp q), (6, xi (-i)), (7, .y (.one (rowC k14 0 ([] : List EN.T).length 0 (([] : List EN.T).length) true)))] hs17 (zA 3 (qL 23 1 (.one (nilC)) (On.at hs1 1 rfl)) (zA 5 (Js (H := H) (s := EN) (t := 23) (el := 40) (ty := 0) (b := false) (nil := true) (capd := true) (l := ([] : List EN.T)) (m := ([] : List EN.T)) (a := (-i)) (by kernel_rfl) (by kernel_rfl) (by first | omega | (simp; done) | (simp; omega)) (by first | omega | (simp; done) | (simp; omega)) (by first | rfl | (apply List.ext_getElem?; intro i; first | (simp only [ea_, eb_, ec_, ed_, ee_, ef_, eg_, eh_, ei_, ej_, ek_, el_, em_]; done) | ((try simp only [ea_, eb_, ec_, ed_, ee_, ef_, eg_, eh_, ei_, ej_, ek_, el_, em_]); (repeat' split) <;> first | rfl | (congr 1; omega) | (exfalso; omega) | (exact ep_ (by omega)) | (exact (ep_ (by omega)).symm))))) (zL 6 (qC1 hr16)))) fun H18 hs19 => ?_
  refine rGz [(7, .y (.one (rowC k14 0 ([] : List EN.T).length 0 (([] : List EN.T).length) true)))] (On.put (.obj [vi room, sv EN false true true ([] : List EN.T)]) hs19 1 rfl) (zA 4 (qL 23 1 (.one (nilC)) (On.at hs19 1 rfl)) (zA 7 (Jk1 (H := H18) (s := EN) (t := 23) (el := 40) (ty := 0) (b := false) (nil := true) (capd := true) (l := ([] : List EN.T)) (m := ([] : List EN.T)) (h := (-i)) (by kernel_rfl) (by kernel_rfl) (by first | omega | (simp; done) | (simp; omega)) (by first | omega | (simp; done) | (simp; omega)) (by first | rfl | (apply List.ext_getElem?; intro i; first | (simp only [ea_, eb_, ec_, ed_, ee_, ef_, eg_, eh_, ei_, ej_, ek_, el_, em_]; done) | ((try simp only [ea_, eb_, ec_, ed_, ee_, ef_, eg_, eh_, ei_, ej_, ek_, el_, em_]); (repeat' split) <;> first | rfl | (congr 1; omega) | (exfalso; omega) | (exact ep_ (by omega)) | (exact (ep_ (by omega)).symm))))) (zL 10 (qS 23 1 (.one (sv EN false true true ([] : List EN.T))) (On.at hs19 1 rfl))))) fun H20 hs21 => ?_
  refine rs0 [(4, .y (.one (rowC k14 0 ([] : List EN.T).length 0 (([] : List EN.T).length) true))), (5, xi 0)] ?_
  refine wE ?_
  refine ⟨Or.inr rfl, [.one (rowC k14 0 ([] : List EN.T).length 0 (([] : List EN.T).length) true), .one (vi 0)], (by kernel_rfl), ?_⟩
  have e0 : (l.take ((l.length : Int) - i).toNat) = [] := by rw [hl4]; simp
  have hs22 : On [R, pts k14 (rowO EN true 0 ([] : List EN.T)), ringP EN q room (l.take ((l.length : Int) - i).toNat)] H20 := sH hs21 [1] [0, 2] (fun _ x => ring_nil' (e0) ⟨by omega, by omega⟩ x)
  have e1 : ([] : List EN.T) = (l.drop ((l.length : Int) - i).toNat) := by rw [hl4]; simp
  have hs23 := (On.pick [0, 2, 1] [] (by kernel_rfl) hs22)
  exact ⟨k14, congrArg (fun z : List EN.T => [Y.one (rft k14 z), .one (vi 0)]) e1, Eq.mp (congrArg (fun z : List EN.T => On [R, ringP EN q room (l.take ((l.length : Int) - i).toNat), pts k14 (rowO EN true 0 z)] _) e1) hs23⟩
 refine rOF Try.func43 rfl ?_
 refine rs0 [(0, yp q), (1, xi i)] ?_
 refine wS ?_
 have hcall24 : Runs pg an 53 [.one (.ptr q 0)] H [.one (vb true)] H := by
  refine runs_of ?_
  refine rOF Try.func53 rfl ?_
  refine rs0 [(0, yp q)] ?_
  refine rSz [(2, xb true)] H (zA 6 (qL 3 0 (.one (vi room)) (On.at hs2 1 rfl)) (zL 7 (qgtrT H room 0))) ?_
  refine wE ?_
  exact ⟨Or.inr rfl, [.one (vb true)], (by kernel_rfl), ⟨rfl, rfl⟩⟩
 refine rSz [(0, yp q), (1, xi i), (14, xb false)] H (zA 1 (qC1 hcall24) (zL 5 (qlssF H i 0))) ?_
 refine wFk ?_
 refine rSz [(0, yp q), (6, xi ((l.length : Int) - i))] H (zA 3 (qL 23 1 (.one (rowC k5 d6 L7.length o8 l.length cd9)) (On.at hs2 1 rfl)) (zA 4 (Jc (H := H) (s := EN) (t := 23) (ty := 0) (pu := true) (capd := cd9) (id := k5) (d := d6) (o := o8) (n := l.length) (l := L7) (e := (l.length : Int)) (On.at hs2 2 rfl) (by kernel_rfl) (by first | rfl | omega | (simp only [ek_]; omega) | (simp; done) | (simp; omega))) (zL 6 (qoSub H (l.length : Int) i ((l.length : Int) - i))))) ?_
 refine wS ?_
 refine rSz [(0, yp q), (6, xi ((l.length : Int) - i)), (23, xb false)] H (zL 1 (qlssF H ((l.length : Int) - i) 0)) ?_
 refine wFk ?_
 have hlfz25 : ((l.drop ((((l.length : Int) - i) : Int).toNat)).length : Int) = i := by { first | rfl | omega | (simp only [ek_]; omega) | (simp; done) | (simp; omega) }
 obtain ⟨_, H28, hr29, k27, rfl, hs30⟩ := own_row _ (H : HH) (On.call [2] [0, 1] (by kernel_rfl) hs2) (k := k5) (d := d6) (o := ((((o8 : Int) + (l.length : Int) - i) : Int).toNat)) (capd := cd9) (L := L7) (l := (l.drop ((((l.length : Int) - i) : Int).toNat))) (by first | rfl | omega | (simp only [ek_]; omega) | (simp; done) | (simp; omega)) ((content_sub (a := ((((l.length : Int) - i) : Int).toNat)) (n' := (l.drop ((((l.length : Int) - i) : Int).toNat)).length) (hl12) (by first | rfl | omega | (simp only [ek_]; omega) | (simp; done) | (simp; omega)) (by first | rfl | omega | (simp only [ek_]; omega) | (simp; done) | (simp; omega))).trans (dt1 (by first | rfl | omega | (simp only [ek_]; omega) | (simp; done) | (simp; omega)) (by first | rfl | omega | (simp only [ek_]; omega) | (simp; done) | (simp; omega)))) (by first | rfl | omega | (simp only [ek_]; omega) | (simp; done) | (simp; omega))
 have hs30 : On [R, pts q (.obj [vi room, rowC k5 d6 L7.length o8 l.length cd9]), pts k5 (rowO EN true d6 L7), pts k27 (rowO EN true 0 (l.drop ((((l.length : Int) - i) : Int).toNat)))] H28 := On.flat hs30
 refine rGz [(0, yp q), (6, xi ((l.length : Int) - i)), (7, .y (.one (rowC k27 0 (l.drop ((((l.length : Int) - i) : Int).toNat)).length 0 ((l.drop ((((l.length : Int) - i) : Int).toNat)).length) true)))] hs30 (zA 3 (qL 23 1 (.one (rowC k5 d6 L7.length o8 l.length cd9)) (On.at hs2 1 rfl)) (zA 5 (Ju (H := H) (s := EN) (t := 23) (el := 40) (ty := 0) (pu := true) (id := k5) (d := d6) (o := o8) (n := l.length) (l := L7) (capd := cd9) (o' := ((((o8 : Int) + (l.length : Int) - i) : Int).toNat)) (n' := ((l.drop ((((l.length : Int) - i) : Int).toNat)).length)) (a := ((l.length : Int) - i)) (On.at hs2 2 rfl) (by kernel_rfl) (by kernel_rfl) (by omega) (by first | rfl | omega | (simp only [ek_]; omega) | (simp; done) | (simp; omega)) (by first | rfl | omega | (simp only [ek_]; omega) | (simp; done) | (simp; omega)) (by first | rfl | omega | (simp only [ek_]; omega) | (simp; done) | (simp; omega)) (by first | rfl | omega | (simp only [ek_]; omega) | (simp; done) | (simp; omega))) (zL 6 (qC1 hr29)))) fun H32 hs33 => ?_
 have hlfz34 : ((l.take ((((l.length : Int) - i) : Int).toNat)).length : Int) = ((l.length : Int) - i) := by { first | rfl | omega | (simp only [ek_]; omega) | (simp; done) | (simp; omega) }
 refine rGz [(7, .y (.one (rowC k27 0 (l.drop ((((l.length : Int) - i) : Int).toNat)).length 0 ((l.drop ((((l.length : Int) - i) : Int).toNat)).length) true)))] (On.put (.obj [vi room, rowC k5 d6 L7.length o8 ((l.take ((((l.length : Int) - i) : Int).toNat)).length) true]) hs33 1 rfl) (zA 4 (qL 23 1 (.one (rowC k5 d6 L7.length o8 l.length cd9)) (On.at hs33 1 rfl)) (zA 7 (Jr (H := H32) (s := EN) (t := 23) (el := 40) (ty := 0) (pu := true) (id := k5) (d := d6) (o := o8) (n := l.length) (l := L7) (capd := cd9) (n' := ((l.take ((((l.length : Int) - i) : Int).toNat)).length)) (h := ((l.length : Int) - i)) (On.at hs33 2 rfl) (by kernel_rfl) (by kernel_rfl) (by omega) (by first | rfl | omega | (simp only [ek_]; omega) | (simp; done) | (simp; omega)) (by first | rfl | omega | (simp only [ek_]; omega) | (simp; done) | (simp; omega)) (by first | rfl | omega | (simp only [ek_]; omega) | (simp; done) | (simp; omega))) (zL 10 (qS 23 1 (.one (rowC k5 d6 L7.length o8 ((l.take ((((l.length : Int) - i) : Int).toNat)).length) true)) (On.at hs33 1 rfl))))) fun H36 hs37 => ?_
 refine rs0 [(4, .y (.one (rowC k27 0 (l.drop ((((l.length : Int) - i) : Int).toNat)).length 0 ((l.drop ((((l.length : Int) - i) : Int).toNat)).length) true))), (5, xi 0)] ?_
 refine wE ?_
 refine ⟨Or.inr rfl, [.one (rowC k27 0 (l.drop ((((l.length : Int) - i) : Int).toNat)).length 0 ((l.drop ((((l.length : Int) - i) : Int).toNat)).length) true), .one (vi 0)], (by kernel_rfl), ?_⟩
 have hs38 : On [R, pts k27 (rowO EN true 0 (l.drop ((((l.length : Int) - i) : Int).toNat))), ringP EN q room (l.take ((l.length : Int) - i).toNat)] H36 := sH hs37 [1, 2] [0, 3] (fun _ x => ring_row ⟨by omega, by omega, by first | rfl | omega | (simp only [ek_]; omega) | (simp; done) | (simp; omega)⟩ (by first | rfl | omega | (simp only [ek_]; omega) | (simp; done) | (simp; omega)) (by first | rfl | omega | (simp only [ek_]; omega) | (simp; done) | (simp; omega)) (fun h => by cases h) (((content_sub (a := 0) (n' := (l.take ((((l.length : Int) - i) : Int).toNat)).length) (hl12) (by first | rfl | omega | (simp only [ek_]; omega) | (simp; done) | (simp; omega)) (by first | rfl | omega | (simp only [ek_]; omega) | (simp; done) | (simp; omega))).trans (take_len (by first | rfl | omega | (simp only [ek_]; omega) | (simp; done) | (simp; omega)))).trans (show (l.take ((((l.length : Int) - i) : Int).toNat)) = (l.take ((l.length : Int) - i).toNat) from by first | rfl | (simp; done) | omega | (simp [*]; done) | (exact (List.take_of_length_le (by omega)).symm) | (rw [List.take_of_length_le (by omega)]) | first | rfl | (apply List.ext_getElem?; intro i; first | (simp only [ea_, eb_, ec_, ed_, ee_, ef_, eg_, eh_, ei_, ej_, ek_, el_, em_]; done) | ((try simp only [ea_, eb_, ec_, ed_, ee_, ef_, eg_, eh_, ei_, ej_, ek_, el_, em_]); (repeat' split) <;> first | rfl | (congr 1; omega) | (exfalso; omega) | (exact ep_ (by omega)) | (exact (ep_ (by omega)).symm))))) x)
 have e1 : (l.drop ((((l.length : Int) - i) : Int).toNat)) = (l.drop ((l.length : Int) - i).toNat) := by first | rfl | (simp; done) | omega | (simp [*]; done) | (exact (List.take_of_length_le (by omega)).symm) | (rw [List.take_of_length_le (by omega)]) | first | rfl | (apply List.ext_getElem?; intro i; first | (simp only [ea_, eb_, ec_, ed_, ee_, ef_, eg_, eh_, ei_, ej_, ek_, el_, em_]; done) | ((try simp only [ea_, eb_, ec_, ed_, ee_, ef_, eg_, eh_, ei_, ej_, ek_, el_, em_]); (repeat' split) <;> first | rfl | (congr 1; omega) | (exfalso; omega) | (exact ep_ (by omega)) | (exact (ep_ (by omega)).symm)))
 have hs39 := (On.pick [0, 2, 1] [] (by kernel_rfl) hs38)
 exact ⟨k27, congrArg (fun z : List EN.T => [Y.one (rft k27 z), .one (vi 0)]) e1, Eq.mp (congrArg (fun z : List EN.T => On [R, ringP EN q room (l.take ((l.length : Int) - i).toNat), pts k27 (rowO EN true 0 z)] _) e1) hs39⟩
theorem join_full_s (R : HP) (H : HH) (q : Nat) (room : Int) (l : List EN.T) (b nil cp : Bool) (m : List EN.T) (hs : On [R, ringP EN q room l] H) (h1 : room < (l.length : Int) + m.length) : ∃ rs H', Runs pg an 44 [.one (.ptr q 0), .one (sv EN b nil cp m)] H rs H' ∧ rs = [.one (vi 2)] ∧ On [R, ringP EN q room l] H' := by
 refine rOF Try.func44 rfl ?_
 refine rs0 [(0, yp q), (1, .y (.one (sv EN b nil cp m)))] ?_
 refine wS ?_
 obtain ⟨⟨hb4a, hb4b, hb4c⟩, ⟨hl5, hs2⟩ | ⟨k6, d7, L8, o9, cd10, ho11, hc12, hl13, hs3⟩⟩ := ring_open hs 1 rfl
 ·
  have hl5n : (l.length : Int) = 0 := by rw [hl5]; rfl
  have hcall14 : Runs pg an 53 [.one (.ptr q 0)] H [.one (vb true)] H := by
   refine runs_of ?_
   refine rOF Try.func53 rfl ?_
   refine rs0 [(0, yp q)] ?_
   refine rSz [(2, xb true)] H (zA 6 (qL 3 0 (.one (vi room)) (On.at hs2 1 rfl)) (zL 7 (qgtrT H room 0))) ?_
   refine wE ?_
   exact ⟨Or.inr rfl, [.one (vb true)], (by kernel_rfl), ⟨rfl, rfl⟩⟩
  refine rSz [(0, yp q), (1, .y (.one (sv EN b nil cp m))), (7, xb false)] H (zL 1 (qC1 hcall14)) ?_
  refine wFk ?_
  refine wS ?_
  have hcall15 : Runs pg an 60 [.one (.ptr q 0)] H [.one (vi room)] H := by
   refine runs_of ?_
   refine rOF Try.func60 rfl ?_
   refine rs0 [(0, yp q)] ?_
   refine wS ?_
   have hcall16 : Runs pg an 53 [.one (.ptr q 0)] H [.one (vb true)] H := by
    refine runs_of ?_
    refine rOF Try.func53 rfl ?_
    refine rs0 [(0, yp q)] ?_
    refine rSz [(2, xb true)] H (zA 6 (qL 3 0 (.one (vi room)) (On.at hs2 1 rfl)) (zL 7 (qgtrT H room 0))) ?_
    refine wE ?_
    exact ⟨Or.inr rfl, [.one (vb true)], (by kernel_rfl), ⟨rfl, rfl⟩⟩
   refine rSz [(0, yp q), (5, xb false)] H (zL 1 (qC1 hcall16)) ?_
   refine wFk ?_
   refine rSz [(2, xi room)] H (zA 3 (qL 3 0 (.one (vi room)) (On.at hs2 1 rfl)) (zA 7 (qL 23 1 (.one (nilC)) (On.at hs2 1 rfl)) (zL 9 (qoSub H room 0 room)))) ?_
   refine wE ?_
   exact ⟨Or.inr rfl, [.one (vi room)], (by kernel_rfl), ⟨rfl, rfl⟩⟩
  refine rSz [(0, yp q), (1, .y (.one (sv EN b nil cp m))), (12, xb true)] H (zA 3 (qC1 hcall15) (zL 4 (qgtrT H (m.length : Int) room))) ?_
  refine wTa ?_
  refine rs0 [(4, xi 2)] ?_
  refine wE ?_
  refine ⟨Or.inr rfl, [.one (vi 2)], (by kernel_rfl), ?_⟩
  have hs17 : On [R, ringP EN q room l] H := sH hs2 [1] [0] (fun _ x => ring_nil' (hl5) ⟨by omega, by omega⟩ x)
  exact ⟨rfl, (On.pick [0, 1] [] (by kernel_rfl) hs17)⟩
 have hcall18 : Runs pg an 53 [.one (.ptr q 0)] H [.one (vb true)] H := by
  refine runs_of ?_
  refine rOF Try.func53 rfl ?_
  refine rs0 [(0, yp q)] ?_
  refine rSz [(2, xb true)] H (zA 6 (qL 3 0 (.one (vi room)) (On.at hs3 1 rfl)) (zL 7 (qgtrT H room 0))) ?_
  refine wE ?_
  exact ⟨Or.inr rfl, [.one (vb true)], (by kernel_rfl), ⟨rfl, rfl⟩⟩
 refine rSz [(0, yp q), (1, .y (.one (sv EN b nil cp m))), (7, xb false)] H (zL 1 (qC1 hcall18)) ?_
 refine wFk ?_
 refine wS ?_
 have hcall19 : Runs pg an 60 [.one (.ptr q 0)] H [.one (vi (room - (l.length : Int)))] H := by
  refine runs_of ?_
  refine rOF Try.func60 rfl ?_
  refine rs0 [(0, yp q)] ?_
  refine wS ?_
  have hcall20 : Runs pg an 53 [.one (.ptr q 0)] H [.one (vb true)] H := by
   refine runs_of ?_
   refine rOF Try.func53 rfl ?_
   refine rs0 [(0, yp q)] ?_
   refine rSz [(2, xb true)] H (zA 6 (qL 3 0 (.one (vi room)) (On.at hs3 1 rfl)) (zL 7 (qgtrT H room 0))) ?_
   refine wE ?_
   exact ⟨Or.inr rfl, [.one (vb true)], (by kernel_rfl), ⟨rfl, rfl⟩⟩
  refine rSz [(0, yp q), (5, xb false)] H (zL 1 (qC1 hcall20)) ?_
  refine wFk ?_
  refine rSz [(2, xi (room - (l.length : Int)))] H (zA 3 (qL 3 0 (.one (vi room)) (On.at hs3 1 rfl)) (zA 7 (qL 23 1 (.one (rowC k6 d7 L8.length o9 l.length cd10)) (On.at hs3 1 rfl)) (zA 8 (Jc (H := H) (s := EN) (t := 23) (ty := 0) (pu := true) (capd := cd10) (id := k6) (d := d7) (o := o9) (n := l.length) (l := L8) (e := (l.length : Int)) (On.at hs3 2 rfl) (by kernel_rfl) (by first | rfl | omega | (simp only [ek_]; omega) | (simp; done) | (simp; omega))) (zL 9 (qoSub H room (l.length : Int) (room - (l.length : Int))))))) ?_
  refine wE ?_
  exact ⟨Or.inr rfl, [.one (vi (room - (l.length : Int)))], (by kernel_rfl), ⟨rfl, rfl⟩⟩
 refine rSz [(0, yp q), (1, .y (.one (sv EN b nil cp m))), (12, xb true)] H (zA 3 (qC1 hcall19) (zL 4 (qgtrT H (m.length : Int) (room - (l.length : Int))))) ?_
 refine wTa ?_
 refine rs0 [(4, xi 2)] ?_
 refine wE ?_
 refine ⟨Or.inr rfl, [.one (vi 2)], (by kernel_rfl), ?_⟩
 have hs21 : On [R, ringP EN q room l] H := sH hs3 [1, 2] [0] (fun _ x => ring_row ⟨by omega, by omega, by first | rfl | omega | (simp only [ek_]; omega) | (simp; done) | (simp; omega)⟩ (by first | rfl | omega | (simp only [ek_]; omega) | (simp; done) | (simp; omega)) (by first | rfl | omega | (simp only [ek_]; omega) | (simp; done) | (simp; omega)) (fun h => by have := hc12 h; first | rfl | omega | (simp only [ek_]; omega) | (simp; done) | (simp; omega)) (hl13) x)
 exact ⟨rfl, (On.pick [0, 1] [] (by kernel_rfl) hs21)⟩
theorem join_ok_s (R : HP) (H : HH) (q : Nat) (room : Int) (l : List EN.T) (b nil cp : Bool) (m : List EN.T) (hs : On [R, ringP EN q room l] H) (h1 : (l.length : Int) + m.length ≤ room) : ∃ rs H', Runs pg an 44 [.one (.ptr q 0), .one (sv EN b nil cp m)] H rs H' ∧ rs = [.one (vi 0)] ∧ On [R, ringP EN q room (l ++ m)] H' := by
 have hle1 : ((l ++ m).length : Int) = l.length + m.length := by rw [ej_]; omega
 refine rOF Try.func44 rfl ?_
 refine rs0 [(0, yp q), (1, .y (.one (sv EN b nil cp m)))] ?_
 refine wS ?_
 obtain ⟨⟨hb4a, hb4b, hb4c⟩, ⟨hl5, hs2⟩ | ⟨k6, d7, L8, o9, cd10, ho11, hc12, hl13, hs3⟩⟩ := ring_open hs 1 rfl
 ·
  have hl5n : (l.length : Int) = 0 := by rw [hl5]; rfl
  have hcall14 : Runs pg an 53 [.one (.ptr q 0)] H [.one (vb true)] H := by
   refine runs_of ?_
   refine rOF Try.func53 rfl ?_
   refine rs0 [(0, yp q)] ?_
   refine rSz [(2, xb true)] H (zA 6 (qL 3 0 (.one (vi room)) (On.at hs2 1 rfl)) (zL 7 (qgtrT H room 0))) ?_
   refine wE ?_
   exact ⟨Or.inr rfl, [.one (vb true)], (by kernel_rfl), ⟨rfl, rfl⟩⟩
  refine rSz [(0, yp q), (1, .y (.one (sv EN b nil cp m))), (7, xb false)] H (zL 1 (qC1 hcall14)) ?_
  refine wFk ?_
  refine wS ?_
  have hcall15 : Runs pg an 60 [.one (.ptr q 0)] H [.one (vi room)] H := by
   refine runs_of ?_
   refine rOF Try.func60 rfl ?_
   refine rs0 [(0, yp q)] ?_
   refine wS ?_
   have hcall16 : Runs pg an 53 [.one (.ptr q 0)] H [.one (vb true)] H := by
    refine runs_of ?_
    refine rOF Try.func53 rfl ?_
    refine rs0 [(0, yp q)] ?_
    refine rSz [(2, xb true)] H (zA 6 (qL 3 0 (.one (vi room)) (On.at hs2 1 rfl)) (zL 7 (qgtrT H room 0))) ?_
    refine wE ?_
    exact ⟨Or.inr rfl, [.one (vb true)], (by kernel_rfl), ⟨rfl, rfl⟩⟩
   refine rSz [(0, yp q), (5, xb false)] H (zL 1 (qC1 hcall16)) ?_
   refine wFk ?_
   refine rSz [(2, xi room)] H (zA 3 (qL 3 0 (.one (vi room)) (On.at hs2 1 rfl)) (zA 7 (qL 23 1 (.one (nilC)) (On.at hs2 1 rfl)) (zL 9 (qoSub H room 0 room)))) ?_
   refine wE ?_
   exact ⟨Or.inr rfl, [.one (vi room)], (by kernel_rfl), ⟨rfl, rfl⟩⟩
  refine rSz [(0, yp q), (1, .y (.one (sv EN b nil cp m))), (12, xb false)] H (zA 3 (qC1 hcall15) (zL 4 (qgtrF H (m.length : Int) room))) ?_
  refine wFk ?_
  by_cases c17 : (0 : Int) < (m.length : Int)
  ·
   obtain ⟨n18, hn18⟩ := lX H
   refine rGz [] (On.put (.obj [vi room, rowC n18 0 m.length 0 m.length false]) (On.new' hn18 (rowO EN true 0 m) hs2) 1 rfl) (zA 4 (qL 23 1 (.one (nilC)) (On.at hs2 1 rfl)) (zA 6 (Jm (H := H) (s := EN) (t := 23) (u := 23) (el := 40) (by_ := 24) (z := [vi 0, vi 0, vb false]) (ty := 0) (b' := false) (nil' := true) (pu := true) (puy := true) (m := m.length) (n' := m.length) (k := n18) (nl := 0) (l := ([] : List EN.T)) (lm := m) (l' := m) (y := sv EN b nil cp m) hn18 (by first | rfl | omega | (simp only [ek_]; omega) | (simp; done) | (simp; omega)) (by kernel_rfl) (slCells_slO (H := H) (s := EN) (b := b) (nil := nil) (capd := cp) (l := m) (n := m.length) (by first | rfl | omega | (simp only [ek_]; omega) | (simp; done) | (simp; omega))) (by kernel_rfl) (by kernel_rfl) (by kernel_rfl) (by kernel_rfl) (by kernel_rfl) (by kernel_rfl) (by kernel_rfl) (by first | rfl | omega | (simp only [ek_]; omega) | (simp; done) | (simp; omega)) (by first | rfl | omega | (simp only [ek_]; omega) | (simp; done) | (simp; omega)) (by omega) (by omega) (ea_ _) (by first | rfl | omega | (simp only [ej_, ek_]; omega) | (simp; done) | (simp; omega))) (zL 9 (qS 23 1 (.one (rowC n18 0 m.length 0 m.length false)) (On.at (On.new' hn18 (rowO EN true 0 m) hs2) 1 rfl))))) fun H19 hs20 => ?_
   refine rs0 [(4, xi 0)] ?_
   refine wE ?_
   refine ⟨Or.inr rfl, [.one (vi 0)], (by kernel_rfl), ?_⟩
   have hs21 : On [R, ringP EN q room (l ++ m)] H19 := sH hs20 [1, 2] [0] (fun _ x => ring_row ⟨by omega, by omega, by first | rfl | omega | (simp only [ek_]; omega) | (simp; done) | (simp; omega)⟩ (by first | rfl | omega | (simp only [ek_]; omega) | (simp; done) | (simp; omega)) (by first | rfl | omega | (simp only [ek_]; omega) | (simp; done) | (simp; omega)) (fun _ => by first | rfl | omega | (simp only [ek_]; omega) | (simp; done) | (simp; omega)) ((dt0 rfl (Nat.le_refl _)).trans (by rw [hl5, ea_])) x)
   exact ⟨rfl, (On.pick [0, 1] [] (by kernel_rfl) hs21)⟩
  refine rGz [] (On.put (.obj [vi room, nilC]) hs2 1 rfl) (zA 4 (qL 23 1 (.one (nilC)) (On.at hs2 1 rfl)) (zA 6 (Jo (H := H) (t := 23) (u := 23) (el := 40) (by_ := 24) (z := [vi 0, vi 0, vb false]) (ty := 0) (sz := 3) (c := nilC) (y := sv EN b nil cp m) (cs := ([] : List EN.T).flatMap (enc EN)) (n := 0) (pu := true) (cs' := m.flatMap (enc EN)) (puy := true) (slCells_slO (H := H) (s := EN) (b := false) (nil := true) (capd := true) (l := ([] : List EN.T)) (n := 0) (by first | rfl | omega | (simp only [ek_]; omega) | (simp; done) | (simp; omega))) (((slCells_slO (H := H) (s := EN) (b := b) (nil := nil) (capd := cp) (l := m) (n := m.length) (by first | rfl | omega | (simp only [ek_]; omega) | (simp; done) | (simp; omega)))).trans (by rw [show m.length = 0 from by first | rfl | omega | (simp only [ek_]; omega) | (simp; done) | (simp; omega)])) (by kernel_rfl) (by kernel_rfl) (by kernel_rfl) (by kernel_rfl) (by kernel_rfl) (by kernel_rfl)) (zL 9 (qS 23 1 (.one (nilC)) (On.at hs2 1 rfl))))) fun H22 hs23 => ?_
  refine rs0 [(4, xi 0)] ?_
  refine wE ?_
  refine ⟨Or.inr rfl, [.one (vi 0)], (by kernel_rfl), ?_⟩
  have hs24 : On [R, ringP EN q room (l ++ m)] H22 := sH hs23 [1] [0] (fun _ x => ring_nil' (by rw [hl5, ea_]; exact List.eq_nil_of_length_eq_zero (by omega)) ⟨by omega, by omega⟩ x)
  exact ⟨rfl, (On.pick [0, 1] [] (by kernel_rfl) hs24)⟩
 have hcall25 : Runs pg an 53 [.one (.ptr q 0)] H [.one (vb true)] H := by
  refine runs_of ?_
  refine rOF Try.func53 rfl ?_
  refine rs0 [(0, yp q)] ?_
  refine rSz [(2, xb true)] H (zA 6 (qL 3 0 (.one (vi room)) (On.at hs3 1 rfl)) (zL 7 (qgtrT H room 0))) ?_
  refine wE ?_
  exact ⟨Or.inr rfl, [.one (vb true)], (by kernel_rfl), ⟨rfl, rfl⟩⟩
 refine rSz [(0, yp q), (1, .y (.one (sv EN b nil cp m))), (7, xb false)] H (zL 1 (qC1 hcall25)) ?_
 refine wFk ?_
 refine wS ?_
 have hcall26 : Runs pg an 60 [.one (.ptr q 0)] H [.one (vi (room - (l.length : Int)))] H := by
  refine runs_of ?_
  refine rOF Try.func60 rfl ?_
  refine rs0 [(0, yp q)] ?_
  refine wS ?_
  have hcall27 : Runs pg an 53 [.one (.ptr q 0)] H [.one (vb true)] H := by
   refine runs_of ?_
   refine rOF Try.func53 rfl ?_
   refine rs0 [(0, yp q)] ?_
   refine rSz [(2, xb true)] H (zA 6 (qL 3 0 (.one (vi room)) (On.at hs3 1 rfl)) (zL 7 (qgtrT H room 0))) ?_
   refine wE ?_
   exact ⟨Or.inr rfl, [.one (vb true)], (by kernel_rfl), ⟨rfl, rfl⟩⟩
  refine rSz [(0, yp q), (5, xb false)] H (zL 1 (qC1 hcall27)) ?_
  refine wFk ?_
  refine rSz [(2, xi (room - (l.length : Int)))] H (zA 3 (qL 3 0 (.one (vi room)) (On.at hs3 1 rfl)) (zA 7 (qL 23 1 (.one (rowC k6 d7 L8.length o9 l.length cd10)) (On.at hs3 1 rfl)) (zA 8 (Jc (H := H) (s := EN) (t := 23) (ty := 0) (pu := true) (capd := cd10) (id := k6) (d := d7) (o := o9) (n := l.length) (l := L8) (e := (l.length : Int)) (On.at hs3 2 rfl) (by kernel_rfl) (by first | rfl | omega | (simp only [ek_]; omega) | (simp; done) | (simp; omega))) (zL 9 (qoSub H room (l.length : Int) (room - (l.length : Int))))))) ?_
  refine wE ?_
  exact ⟨Or.inr rfl, [.one (vi (room - (l.length : Int)))], (by kernel_rfl), ⟨rfl, rfl⟩⟩
 refine rSz [(0, yp q), (1, .y (.one (sv EN b nil cp m))), (12, xb false)] H (zA 3 (qC1 hcall26) (zL 4 (qgtrF H (m.length : Int) (room - (l.length : Int))))) ?_
 refine wFk ?_
 by_cases c28 : (0 : Int) < (m.length : Int)
 ·
  rcases Bool.eq_false_or_eq_true cd10 with rfl | rfl
  ·
   obtain ⟨n29, hn29⟩ := lX H
   have hlfz30 : ((l ++ m).length : Int) = ((l.length : Int) + (m.length : Int)) := by { first | rfl | omega | (simp only [ek_]; omega) | (simp; done) | (simp; omega) }
   refine rGz [] (On.put (.obj [vi room, rowC n29 0 (l ++ m).length 0 ((l ++ m).length) false]) (On.new' hn29 (rowO EN true 0 (l ++ m)) hs3) 1 rfl) (zA 4 (qL 23 1 (.one (rowC k6 d7 L8.length o9 l.length true)) (On.at hs3 1 rfl)) (zA 6 (Jv (H := H) (s := EN) (t := 23) (u := 23) (el := 40) (by_ := 24) (z := [vi 0, vi 0, vb false]) (ty := 0) (pu := true) (puy := true) (id := k6) (d := d7) (o := o9) (n := l.length) (m := m.length) (l := L8) (lm := m) (y := sv EN b nil cp m) (n' := (l ++ m).length) (k := n29) (l' := (l ++ m)) hn29 (On.at hs3 2 rfl) (slCells_slO (H := H) (s := EN) (b := b) (nil := nil) (capd := cp) (l := m) (n := m.length) (by first | rfl | omega | (simp only [ek_]; omega) | (simp; done) | (simp; omega))) (by kernel_rfl) (by kernel_rfl) (by kernel_rfl) (by kernel_rfl) (by kernel_rfl) (by kernel_rfl) (by kernel_rfl) (by first | rfl | omega | (simp only [ek_]; omega) | (simp; done) | (simp; omega)) (by first | rfl | omega | (simp only [ek_]; omega) | (simp; done) | (simp; omega)) (by first | rfl | omega | (simp only [ek_]; omega) | (simp; done) | (simp; omega)) (by omega) (by omega) (congrArg (fun z => z ++ _) (hl13)) (by first | (simp only [ej_]; done) | (simp only [ej_]; first | omega | (simp; done) | (simp; omega)))) (zL 9 (qS 23 1 (.one (rowC n29 0 (l ++ m).length 0 ((l ++ m).length) false)) (On.at (On.new' hn29 (rowO EN true 0 (l ++ m)) hs3) 1 rfl))))) fun H32 hs33 => ?_
   refine rs0 [(4, xi 0)] ?_
   refine wE ?_
   refine ⟨Or.inr rfl, [.one (vi 0)], (by kernel_rfl), ?_⟩
   have hs34 : On [R, pts k6 (rowO EN true d7 L8), ringP EN q room (l ++ m)] H32 := sH hs33 [1, 3] [0, 2] (fun _ x => ring_row ⟨by omega, by omega, by first | rfl | omega | (simp only [ek_]; omega) | (simp; done) | (simp; omega)⟩ (by first | rfl | omega | (simp only [ek_]; omega) | (simp; done) | (simp; omega)) (by first | rfl | omega | (simp only [ek_]; omega) | (simp; done) | (simp; omega)) (fun _ => by first | rfl | omega | (simp only [ek_]; omega) | (simp; done) | (simp; omega)) ((dt0 rfl (Nat.le_refl _)).trans (show (l ++ m) = l ++ m from rfl)) x)
   exact ⟨rfl, (On.pick [0, 2] [1] (by kernel_rfl) hs34)⟩
  have hc12z := hc12 rfl
  have hlfz35 : ((l ++ m).length : Int) = ((l.length : Int) + (m.length : Int)) := by { first | rfl | omega | (simp only [ek_]; omega) | (simp; done) | (simp; omega) }
  refine rGz [] (On.put (.obj [vi room, rowC k6 (d7 + o9) (l ++ m).length 0 ((l ++ m).length) false]) (On.put (rowO EN true (d7 + o9) (l ++ m)) hs3 2 rfl) 1 rfl) (zA 4 (qL 23 1 (.one (rowC k6 d7 L8.length o9 l.length false)) (On.at hs3 1 rfl)) (zA 6 (Jd1 (H := H) (s := EN) (t := 23) (u := 23) (el := 40) (by_ := 24) (z := [vi 0, vi 0, vb false]) (ty := 0) (pu := true) (puy := true) (id := k6) (d := d7) (o := o9) (n := l.length) (m := m.length) (l := L8) (lm := m) (y := sv EN b nil cp m) (d' := (d7 + o9)) (l' := (l ++ m)) (n' := (l ++ m).length) (On.at hs3 2 rfl) (slCells_slO (H := H) (s := EN) (b := b) (nil := nil) (capd := cp) (l := m) (n := m.length) (by first | rfl | omega | (simp only [ek_]; omega) | (simp; done) | (simp; omega))) (by kernel_rfl) (by kernel_rfl) (by kernel_rfl) (by kernel_rfl) (by kernel_rfl) (by kernel_rfl) (by kernel_rfl) (by first | rfl | omega | (simp only [ek_]; omega) | (simp; done) | (simp; omega)) (by first | rfl | omega | (simp only [ek_]; omega) | (simp; done) | (simp; omega)) (by first | rfl | omega | (simp only [ek_]; omega) | (simp; done) | (simp; omega)) (by omega) (by omega) (by omega) (congrArg (fun z => z ++ m) (show L8.drop o9 = l from (List.take_of_length_le (by rw [ei_]; omega)).symm.trans (hl13))) (by first | (simp only [ej_]; done) | (simp only [ej_]; first | omega | (simp; done) | (simp; omega)))) (zL 9 (qS 23 1 (.one (rowC k6 (d7 + o9) (l ++ m).length 0 ((l ++ m).length) false)) (On.at (On.put (rowO EN true (d7 + o9) (l ++ m)) hs3 2 rfl) 1 rfl))))) fun H37 hs38 => ?_
  refine rs0 [(4, xi 0)] ?_
  refine wE ?_
  refine ⟨Or.inr rfl, [.one (vi 0)], (by kernel_rfl), ?_⟩
  have hs39 : On [R, ringP EN q room (l ++ m)] H37 := sH hs38 [1, 2] [0] (fun _ x => ring_row ⟨by omega, by omega, by first | rfl | omega | (simp only [ek_]; omega) | (simp; done) | (simp; omega)⟩ (by first | rfl | omega | (simp only [ek_]; omega) | (simp; done) | (simp; omega)) (by first | rfl | omega | (simp only [ek_]; omega) | (simp; done) | (simp; omega)) (fun _ => by first | rfl | omega | (simp only [ek_]; omega) | (simp; done) | (simp; omega)) ((dt0 rfl (Nat.le_refl _)).trans (show (l ++ m) = l ++ m from rfl)) x)
  exact ⟨rfl, (On.pick [0, 1] [] (by kernel_rfl) hs39)⟩
 refine rGz [] (On.put (.obj [vi room, rowC k6 d7 L8.length o9 l.length cd10]) hs3 1 rfl) (zA 4 (qL 23 1 (.one (rowC k6 d7 L8.length o9 l.length cd10)) (On.at hs3 1 rfl)) (zA 6 (Jo (H := H) (t := 23) (u := 23) (el := 40) (by_ := 24) (z := [vi 0, vi 0, vb false]) (ty := 0) (sz := 3) (c := rowC k6 d7 L8.length o9 l.length cd10) (y := sv EN b nil cp m) (cs := l.flatMap (enc EN)) (n := l.length) (pu := true) (cs' := m.flatMap (enc EN)) (puy := true) (slCells_rowO (H := H) (s := EN) (pu := true) (capd := cd10) (id := k6) (d := d7) (o := o9) (n := l.length) (l := L8) (m := l) (On.at hs3 2 rfl) (by first | rfl | omega | (simp only [ek_]; omega) | (simp; done) | (simp; omega)) (hl13)) (((slCells_slO (H := H) (s := EN) (b := b) (nil := nil) (capd := cp) (l := m) (n := m.length) (by first | rfl | omega | (simp only [ek_]; omega) | (simp; done) | (simp; omega)))).trans (by rw [show m.length = 0 from by first | rfl | omega | (simp only [ek_]; omega) | (simp; done) | (simp; omega)])) (by kernel_rfl) (by kernel_rfl) (by kernel_rfl) (by kernel_rfl) (by kernel_rfl) (by kernel_rfl)) (zL 9 (qS 23 1 (.one (rowC k6 d7 L8.length o9 l.length cd10)) (On.at hs3 1 rfl))))) fun H40 hs41 => ?_
 refine rs0 [(4, xi 0)] ?_
 refine wE ?_
 refine ⟨Or.inr rfl, [.one (vi 0)], (by kernel_rfl), ?_⟩
 have hs42 : On [R, ringP EN q room (l ++ m)] H40 := sH hs41 [1, 2] [0] (fun _ x => ring_row ⟨by omega, by omega, by first | rfl | omega | (simp only [ek_]; omega) | (simp; done) | (simp; omega)⟩ (by first | rfl | omega | (simp only [ek_]; omega) | (simp; done) | (simp; omega)) (by first | rfl | omega | (simp only [ek_]; omega) | (simp; done) | (simp; omega)) (fun h => by have := hc12 h; first | rfl | omega | (simp only [ek_]; omega) | (simp; done) | (simp; omega)) ((hl13).trans (by rw [show m = [] from List.eq_nil_of_length_eq_zero (by omega), eb_])) x)
 exact ⟨rfl, (On.pick [0, 1] [] (by kernel_rfl) hs42)⟩
theorem join_full_r (R : HP) (H : HH) (q : Nat) (room : Int) (l : List EN.T) (k d o : Nat) (cp : Bool) (L m : List EN.T) (hs : On [R, ringP EN q room l, pts k (rowO EN true d L)] H) (ho : o + m.length ≤ L.length) (hl : (L.drop o).take m.length = m) (h1 : room < (l.length : Int) + m.length) : ∃ rs H', Runs pg an 44 [.one (.ptr q 0), .one (rowC k d L.length o m.length cp)] H rs H' ∧ rs = [.one (vi 2)] ∧ On [R, ringP EN q room l, pts k (rowO EN true d L)] H' := by
 refine rOF Try.func44 rfl ?_
 refine rs0 [(0, yp q), (1, .y (.one (rowC k d L.length o m.length cp)))] ?_
 refine wS ?_
 obtain ⟨⟨hb4a, hb4b, hb4c⟩, ⟨hl5, hs2⟩ | ⟨k6, d7, L8, o9, cd10, ho11, hc12, hl13, hs3⟩⟩ := ring_open hs 1 rfl
 ·
  have hl5n : (l.length : Int) = 0 := by rw [hl5]; rfl
  have hcall14 : Runs pg an 53 [.one (.ptr q 0)] H [.one (vb true)] H := by
   refine runs_of ?_
   refine rOF Try.func53 rfl ?_
   refine rs0 [(0, yp q)] ?_
   refine rSz [(2, xb true)] H (zA 6 (qL 3 0 (.one (vi room)) (On.at hs2 2 rfl)) (zL 7 (qgtrT H room 0))) ?_
   refine wE ?_
   exact ⟨Or.inr rfl, [.one (vb true)], (by kernel_rfl), ⟨rfl, rfl⟩⟩
  refine rSz [(0, yp q), (1, .y (.one (rowC k d L.length o m.length cp))), (7, xb false)] H (zL 1 (qC1 hcall14)) ?_
  refine wFk ?_
  refine wS ?_
  have hcall15 : Runs pg an 60 [.one (.ptr q 0)] H [.one (vi room)] H := by
   refine runs_of ?_
   refine rOF Try.func60 rfl ?_
   refine rs0 [(0, yp q)] ?_
   refine wS ?_
   have hcall16 : Runs pg an 53 [.one (.ptr q 0)] H [.one (vb true)] H := by
    refine runs_of ?_
    refine rOF Try.func53 rfl ?_
    refine rs0 [(0, yp q)] ?_
    refine rSz [(2, xb true)] H (zA 6 (qL 3 0 (.one (vi room)) (On.at hs2 2 rfl)) (zL 7 (qgtrT H room 0))) ?_
    refine wE ?_
    exact ⟨Or.inr rfl, [.one (vb true)], (by kernel_rfl), ⟨rfl, rfl⟩⟩
   refine rSz [(0, yp q), (5, xb false)] H (zL 1 (qC1 hcall16)) ?_
   refine wFk ?_
   refine rSz [(2, xi room)] H (zA 3 (qL 3 0 (.one (vi room)) (On.at hs2 2 rfl)) (zA 7 (qL 23 1 (.one (nilC)) (On.at hs2 2 rfl)) (zL 9 (qoSub H room 0 room)))) ?_
   refine wE ?_
   exact ⟨Or.inr rfl, [.one (vi room)], (by kernel_rfl), ⟨rfl, rfl⟩⟩
  refine rSz [(0, yp q), (1, .y (.one (rowC k d L.length o m.length cp))), (12, xb true)] H (zA 1 (Jc (H := H) (s := EN) (t := 23) (ty := 0) (pu := true) (capd := cp) (id := k) (d := d) (o := o) (n := m.length) (l := L) (e := (m.length : Int)) (On.at hs2 1 rfl) (by kernel_rfl) (by first | rfl | omega | (simp only [ek_]; omega) | (simp; done) | (simp; omega))) (zA 3 (qC1 hcall15) (zL 4 (qgtrT H (m.length : Int) room)))) ?_
  refine wTa ?_
  refine rs0 [(4, xi 2)] ?_
  refine wE ?_
  refine ⟨Or.inr rfl, [.one (vi 2)], (by kernel_rfl), ?_⟩
  have hs17 : On [R, pts k (rowO EN true d L), ringP EN q room l] H := sH hs2 [2] [0, 1] (fun _ x => ring_nil' (hl5) ⟨by omega, by omega⟩ x)
  exact ⟨rfl, (On.pick [0, 2, 1] [] (by kernel_rfl) hs17)⟩
 have hcall18 : Runs pg an 53 [.one (.ptr q 0)] H [.one (vb true)] H := by
  refine runs_of ?_
  refine rOF Try.func53 rfl ?_
  refine rs0 [(0, yp q)] ?_
  refine rSz [(2, xb true)] H (zA 6 (qL 3 0 (.one (vi room)) (On.at hs3 2 rfl)) (zL 7 (qgtrT H room 0))) ?_
  refine wE ?_
  exact ⟨Or.inr rfl, [.one (vb true)], (by kernel_rfl), ⟨rfl, rfl⟩⟩
 refine rSz [(0, yp q), (1, .y (.one (rowC k d L.length o m.length cp))), (7, xb false)] H (zL 1 (qC1 hcall18)) ?_
 refine wFk ?_
 refine wS ?_
 have hcall19 : Runs pg an 60 [.one (.ptr q 0)] H [.one (vi (room - (l.length : Int)))] H := by
  refine runs_of ?_
  refine rOF Try.func60 rfl ?_
  refine rs0 [(0, yp q)] ?_
  refine wS ?_
  have hcall20 : Runs pg an 53 [.one (.ptr q 0)] H [.one (vb true)] H := by
   refine runs_of ?_
   refine rOF Try.func53 rfl ?_
   refine rs0 [(0, yp q)] ?_
   refine rSz [(2, xb true)] H (zA 6 (qL 3 0 (.one (vi room)) (On.at hs3 2 rfl)) (zL 7 (qgtrT H room 0))) ?_
   refine wE ?_
   exact ⟨Or.inr rfl, [.one (vb true)], (by kernel_rfl), ⟨rfl, rfl⟩⟩
  refine rSz [(0, yp q), (5, xb false)] H (zL 1 (qC1 hcall20)) ?_
  refine wFk ?_
  refine rSz [(2, xi (room - (l.length : Int)))] H (zA 3 (qL 3 0 (.one (vi room)) (On.at hs3 2 rfl)) (zA 7 (qL 23 1 (.one (rowC k6 d7 L8.length o9 l.length cd10)) (On.at hs3 2 rfl)) (zA 8 (Jc (H := H) (s := EN) (t := 23) (ty := 0) (pu := true) (capd := cd10) (id := k6) (d := d7) (o := o9) (n := l.length) (l := L8) (e := (l.length : Int)) (On.at hs3 3 rfl) (by kernel_rfl) (by first | rfl | omega | (simp only [ek_]; omega) | (simp; done) | (simp; omega))) (zL 9 (qoSub H room (l.length : Int) (room - (l.length : Int))))))) ?_
  refine wE ?_
  exact ⟨Or.inr rfl, [.one (vi (room - (l.length : Int)))], (by kernel_rfl), ⟨rfl, rfl⟩⟩
 refine rSz [(0, yp q), (1, .y (.one (rowC k d L.length o m.length cp))), (12, xb true)] H (zA 1 (Jc (H := H) (s := EN) (t := 23) (ty := 0) (pu := true) (capd := cp) (id := k) (d := d) (o := o) (n := m.length) (l := L) (e := (m.length : Int)) (On.at hs3 1 rfl) (by kernel_rfl) (by first | rfl | omega | (simp only [ek_]; omega) | (simp; done) | (simp; omega))) (zA 3 (qC1 hcall19) (zL 4 (qgtrT H (m.length : Int) (room - (l.length : Int)))))) ?_
 refine wTa ?_
 refine rs0 [(4, xi 2)] ?_
 refine wE ?_
 refine ⟨Or.inr rfl, [.one (vi 2)], (by kernel_rfl), ?_⟩
 have hs21 : On [R, pts k (rowO EN true d L), ringP EN q room l] H := sH hs3 [2, 3] [0, 1] (fun _ x => ring_row ⟨by omega, by omega, by first | rfl | omega | (simp only [ek_]; omega) | (simp; done) | (simp; omega)⟩ (by first | rfl | omega | (simp only [ek_]; omega) | (simp; done) | (simp; omega)) (by first | rfl | omega | (simp only [ek_]; omega) | (simp; done) | (simp; omega)) (fun h => by have := hc12 h; first | rfl | omega | (simp only [ek_]; omega) | (simp; done) | (simp; omega)) (hl13) x)
 exact ⟨rfl, (On.pick [0, 2, 1] [] (by kernel_rfl) hs21)⟩
theorem join_ok_r (R : HP) (H : HH) (q : Nat) (room : Int) (l : List EN.T) (k d o : Nat) (cp : Bool) (L m : List EN.T) (hs : On [R, ringP EN q room l, pts k (rowO EN true d L)] H) (ho : o + m.length ≤ L.length) (hl : (L.drop o).take m.length = m) (h1 : (l.length : Int) + m.length ≤ room) : ∃ rs H', Runs pg an 44 [.one (.ptr q 0), .one (rowC k d L.length o m.length cp)] H rs H' ∧ rs = [.one (vi 0)] ∧ On [R, ringP EN q room (l ++ m), pts k (rowO EN true d L)] H' := by
 have hle1 : ((l ++ m).length : Int) = l.length + m.length := by rw [ej_]; omega
 refine rOF Try.func44 rfl ?_
 refine rs0 [(0, yp q), (1, .y (.one (rowC k d L.length o m.length cp)))] ?_
 refine wS ?_
 obtain ⟨⟨hb4a, hb4b, hb4c⟩, ⟨hl5, hs2⟩ | ⟨k6, d7, L8, o9, cd10, ho11, hc12, hl13, hs3⟩⟩ := ring_open hs 1 rfl
 ·
  have hl5n : (l.length : Int) = 0 := by rw [hl5]; rfl
  have hcall14 : Runs pg an 53 [.one (.ptr q 0)] H [.one (vb true)] H := by
   refine runs_of ?_
   refine rOF Try.func53 rfl ?_
   refine rs0 [(0, yp q)] ?_
   refine rSz [(2, xb true)] H (zA 6 (qL 3 0 (.one (vi room)) (On.at hs2 2 rfl)) (zL 7 (qgtrT H room 0))) ?_
   refine wE ?_
   exact ⟨Or.inr rfl, [.one (vb true)], (by kernel_rfl), ⟨rfl, rfl⟩⟩
  refine rSz [(0, yp q), (1, .y (.one (rowC k d L.length o m.length cp))), (7, xb false)] H (zL 1 (qC1 hcall14)) ?_
  refine wFk ?_
  refine wS ?_
  have hcall15 : Runs pg an 60 [.one (.ptr q 0)] H [.one (vi room)] H := by
   refine runs_of ?_
   refine rOF Try.func60 rfl ?_
   refine rs0 [(0, yp q)] ?_
   refine wS ?_
   have hcall16 : Runs pg an 53 [.one (.ptr q 0)] H [.one (vb true)] H := by
    refine runs_of ?_
    refine rOF Try.func53 rfl ?_
    refine rs0 [(0, yp q)] ?_
    refine rSz [(2, xb true)] H (zA 6 (qL 3 0 (.one (vi room)) (On.at hs2 2 rfl)) (zL 7 (qgtrT H room 0))) ?_
    refine wE ?_
    exact ⟨Or.inr rfl, [.one (vb true)], (by kernel_rfl), ⟨rfl, rfl⟩⟩
   refine rSz [(0, yp q), (5, xb false)] H (zL 1 (qC1 hcall16)) ?_
   refine wFk ?_
   refine rSz [(2, xi room)] H (zA 3 (qL 3 0 (.one (vi room)) (On.at hs2 2 rfl)) (zA 7 (qL 23 1 (.one (nilC)) (On.at hs2 2 rfl)) (zL 9 (qoSub H room 0 room)))) ?_
   refine wE ?_
   exact ⟨Or.inr rfl, [.one (vi room)], (by kernel_rfl), ⟨rfl, rfl⟩⟩
  refine rSz [(0, yp q), (1, .y (.one (rowC k d L.length o m.length cp))), (12, xb false)] H (zA 1 (Jc (H := H) (s := EN) (t := 23) (ty := 0) (pu := true) (capd := cp) (id := k) (d := d) (o := o) (n := m.length) (l := L) (e := (m.length : Int)) (On.at hs2 1 rfl) (by kernel_rfl) (by first | rfl | omega | (simp only [ek_]; omega) | (simp; done) | (simp; omega))) (zA 3 (qC1 hcall15) (zL 4 (qgtrF H (m.length : Int) room)))) ?_
  refine wFk ?_
  by_cases c17 : (0 : Int) < (m.length : Int)
  ·
   obtain ⟨n18, hn18⟩ := lX H
   refine rGz [] (On.put (.obj [vi room, rowC n18 0 m.length 0 m.length false]) (On.new' hn18 (rowO EN true 0 m) hs2) 2 rfl) (zA 4 (qL 23 1 (.one (nilC)) (On.at hs2 2 rfl)) (zA 6 (Jm (H := H) (s := EN) (t := 23) (u := 23) (el := 40) (by_ := 24) (z := [vi 0, vi 0, vb false]) (ty := 0) (b' := false) (nil' := true) (pu := true) (puy := true) (m := m.length) (n' := m.length) (k := n18) (nl := 0) (l := ([] : List EN.T)) (lm := m) (l' := m) (y := rowC k d L.length o m.length cp) hn18 (by first | rfl | omega | (simp only [ek_]; omega) | (simp; done) | (simp; omega)) (by kernel_rfl) (slCells_rowO (H := H) (s := EN) (pu := true) (capd := cp) (id := k) (d := d) (o := o) (n := m.length) (l := L) (m := m) (On.at hs2 1 rfl) (by first | rfl | omega | (simp only [ek_]; omega) | (simp; done) | (simp; omega)) (hl)) (by kernel_rfl) (by kernel_rfl) (by kernel_rfl) (by kernel_rfl) (by kernel_rfl) (by kernel_rfl) (by kernel_rfl) (by first | rfl | omega | (simp only [ek_]; omega) | (simp; done) | (simp; omega)) (by first | rfl | omega | (simp only [ek_]; omega) | (simp; done) | (simp; omega)) (by omega) (by omega) (ea_ _) (by first | rfl | omega | (simp only [ej_, ek_]; omega) | (simp; done) | (simp; omega))) (zL 9 (qS 23 1 (.one (rowC n18 0 m.length 0 m.length false)) (On.at (On.new' hn18 (rowO EN true 0 m) hs2) 2 rfl))))) fun H19 hs20 => ?_
   refine rs0 [(4, xi 0)] ?_
   refine wE ?_
   refine ⟨Or.inr rfl, [.one (vi 0)], (by kernel_rfl), ?_⟩
   have hs21 : On [R, pts k (rowO EN true d L), ringP EN q room (l ++ m)] H19 := sH hs20 [2, 3] [0, 1] (fun _ x => ring_row ⟨by omega, by omega, by first | rfl | omega | (simp only [ek_]; omega) | (simp; done) | (simp; omega)⟩ (by first | rfl | omega | (simp only [ek_]; omega) | (simp; done) | (simp; omega)) (by first | rfl | omega | (simp only [ek_]; omega) | (simp; done) | (simp; omega)) (fun _ => by first | rfl | omega | (simp only [ek_]; omega) | (simp; done) | (simp; omega)) ((dt0 rfl (Nat.le_refl _)).trans (by rw [hl5, ea_])) x)
   exact ⟨rfl, (On.pick [0, 2, 1] [] (by kernel_rfl) hs21)⟩
  refine rGz [] (On.put (.obj [vi room, nilC]) hs2 2 rfl) (zA 4 (qL 23 1 (.one (nilC)) (On.at hs2 2 rfl)) (zA 6 (Jo (H := H) (t := 23) (u := 23) (el := 40) (by_ := 24) (z := [vi 0, vi 0, vb false]) (ty := 0) (sz := 3) (c := nilC) (y := rowC k d L.length o m.length cp) (cs := ([] : List EN.T).flatMap (enc EN)) (n := 0) (pu := true) (cs' := m.flatMap (enc EN)) (puy := true) (slCells_slO (H := H) (s := EN) (b := false) (nil := true) (capd := true) (l := ([] : List EN.T)) (n := 0) (by first | rfl | omega | (simp only [ek_]; omega) | (simp; done) | (simp; omega))) (((slCells_rowO (H := H) (s := EN) (pu := true) (capd := cp) (id := k) (d := d) (o := o) (n := m.length) (l := L) (m := m) (On.at hs2 1 rfl) (by first | rfl | omega | (simp only [ek_]; omega) | (simp; done) | (simp; omega)) (hl))).trans (by rw [show m.length = 0 from by first | rfl | omega | (simp only [ek_]; omega) | (simp; done) | (simp; omega)])) (by kernel_rfl) (by kernel_rfl) (by kernel_rfl) (by kernel_rfl) (by kernel_rfl) (by kernel_rfl)) (zL 9 (qS 23 1 (.one (nilC)) (On.at hs2 2 rfl))))) fun H22 hs23 => ?_
  refine rs0 [(4, xi 0)] ?_
  refine wE ?_
  refine ⟨Or.inr rfl, [.one (vi 0)], (by kernel_rfl), ?_⟩
  have hs24 : On [R, pts k (rowO EN true d L), ringP EN q room (l ++ m)] H22 := sH hs23 [2] [0, 1] (fun _ x => ring_nil' (by rw [hl5, ea_]; exact List.eq_nil_of_length_eq_zero (by omega)) ⟨by omega, by omega⟩ x)
  exact ⟨rfl, (On.pick [0, 2, 1] [] (by kernel_rfl) hs24)⟩
 have hcall25 : Runs pg an 53 [.one (.ptr q 0)] H [.one (vb true)] H := by
  refine runs_of ?_
  refine rOF Try.func53 rfl ?_
  refine rs0 [(0, yp q)] ?_
  refine rSz [(2, xb true)] H (zA 6 (qL 3 0 (.one (vi room)) (On.at hs3 2 rfl)) (zL 7 (qgtrT H room 0))) ?_
  refine wE ?_
  exact ⟨Or.inr rfl, [.one (vb true)], (by kernel_rfl), ⟨rfl, rfl⟩⟩
 refine rSz [(0, yp q), (1, .y (.one (rowC k d L.length o m.length cp))), (7, xb false)] H (zL 1 (qC1 hcall25)) ?_
 refine wFk ?_
 refine wS ?_
 have hcall26 : Runs pg an 60 [.one (.ptr q 0)] H [.one (vi (room - (l.length : Int)))] H := by
  refine runs_of ?_
  refine rOF Try.func60 rfl ?_
  refine rs0 [(0, yp q)] ?_
  refine wS ?_
  have hcall27 : Runs pg an 53 [.one (.ptr q 0)] H [.one (vb true)] H := by
   refine runs_of ?_
   refine rOF Try.func53 rfl ?_
   refine rs0 [(0, yp q)] ?_
   refine rSz [(2, xb true)] H (zA 6 (qL 3 0 (.one (vi room)) (On.at hs3 2 rfl)) (zL 7 (qgtrT H room 0))) ?_
   refine wE ?_
   exact ⟨Or.inr rfl, [.one (vb true)], (by kernel_rfl), ⟨rfl, rfl⟩⟩
  refine rSz [(0, yp q), (5, xb false)] H (zL 1 (qC1 hcall27)) ?_
  refine wFk ?_
  refine rSz [(2, xi (room - (l.length : Int)))] H (zA 3 (qL 3 0 (.one (vi room)) (On.at hs3 2 rfl)) (zA 7 (qL 23 1 (.one (rowC k6 d7 L8.length o9 l.length cd10)) (On.at hs3 2 rfl)) (zA 8 (Jc (H := H) (s := EN) (t := 23) (ty := 0) (pu := true) (capd := cd10) (id := k6) (d := d7) (o := o9) (n := l.length) (l := L8) (e := (l.length : Int)) (On.at hs3 3 rfl) (by kernel_rfl) (by first | rfl | omega | (simp only [ek_]; omega) | (simp; done) | (simp; omega))) (zL 9 (qoSub H room (l.length : Int) (room - (l.length : Int))))))) ?_
  refine wE ?_
  exact ⟨Or.inr rfl, [.one (vi (room - (l.length : Int)))], (by kernel_rfl), ⟨rfl, rfl⟩⟩
 refine rSz [(0, yp q), (1, .y (.one (rowC k d L.length o m.length cp))), (12, xb false)] H (zA 1 (Jc (H := H) (s := EN) (t := 23) (ty := 0) (pu := true) (capd := cp) (id := k) (d := d) (o := o) (n := m.length) (l := L) (e := (m.length : Int)) (On.at hs3 1 rfl) (by kernel_rfl) (by first | rfl | omega | (simp only [ek_]; omega) | (simp; done) | (simp; omega))) (zA 3 (qC1 hcall26) (zL 4 (qgtrF H (m.length : Int) (room - (l.length : Int)))))) ?_
 refine wFk ?_
 by_cases c28 : (0 : Int) < (m.length : Int)
 ·
  rcases Bool.eq_false_or_eq_true cd10 with rfl | rfl
  ·
   obtain ⟨n29, hn29⟩ := lX H
   have hlfz30 : ((l ++ m).length : Int) = ((l.length : Int) + (m.length : Int)) := by { first | rfl | omega | (simp only [ek_]; omega) | (simp; done) | (simp; omega) }
   refine rGz [] (On.put (.obj [vi room, rowC n29 0 (l ++ m).length 0 ((l ++ m).length) false]) (On.new' hn29 (rowO EN true 0 (l ++ m)) hs3) 2 rfl) (zA 4 (qL 23 1 (.one (rowC k6 d7 L8.length o9 l.length true)) (On.at hs3 2 rfl)) (zA 6 (Jv (H := H) (s := EN) (t := 23) (u := 23) (el := 40) (by_ := 24) (z := [vi 0, vi 0, vb false]) (ty := 0) (pu := true) (puy := true) (id := k6) (d := d7) (o := o9) (n := l.length) (m := m.length) (l := L8) (lm := m) (y := rowC k d L.length o m.length cp) (n' := (l ++ m).length) (k := n29) (l' := (l ++ m)) hn29 (On.at hs3 3 rfl) (slCells_rowO (H := H) (s := EN) (pu := true) (capd := cp) (id := k) (d := d) (o := o) (n := m.length) (l := L) (m := m) (On.at hs3 1 rfl) (by first | rfl | omega | (simp only [ek_]; omega) | (simp; done) | (simp; omega)) (hl)) (by kernel_rfl) (by kernel_rfl) (by kernel_rfl) (by kernel_rfl) (by kernel_rfl) (by kernel_rfl) (by kernel_rfl) (by first | rfl | omega | (simp only [ek_]; omega) | (simp; done) | (simp; omega)) (by first | rfl | omega | (simp only [ek_]; omega) | (simp; done) | (simp; omega)) (by first | rfl | omega | (simp only [ek_]; omega) | (simp; done) | (simp; omega)) (by omega) (by omega) (congrArg (fun z => z ++ _) (hl13)) (by first | (simp only [ej_]; done) | (simp only [ej_]; first | omega | (simp; done) | (simp; omega)))) (zL 9 (qS 23 1 (.one (rowC n29 0 (l ++ m).length 0 ((l ++ m).length) false)) (On.at (On.new' hn29 (rowO EN true 0 (l ++ m)) hs3) 2 rfl))))) fun H32 hs33 => ?_
   refine rs0 [(4, xi 0)] ?_
   refine wE ?_
   refine ⟨Or.inr rfl, [.one (vi 0)], (by kernel_rfl), ?_⟩
   have hs34 : On [R, pts k (rowO EN true d L), pts k6 (rowO EN true d7 L8), ringP EN q room (l ++ m)] H32 := sH hs33 [2, 4] [0, 1, 3] (fun _ x => ring_row ⟨by omega, by omega, by first | rfl | omega | (simp only [ek_]; omega) | (simp; done) | (simp; omega)⟩ (by first | rfl | omega | (simp only [ek_]; omega) | (simp; done) | (simp; omega)) (by first | rfl | omega | (simp only [ek_]; omega) | (simp; done) | (simp; omega)) (fun _ => by first | rfl | omega | (simp only [ek_]; omega) | (simp; done) | (simp; omega)) ((dt0 rfl (Nat.le_refl _)).trans (show (l ++ m) = l ++ m from rfl)) x)
   exact ⟨rfl, (On.pick [0, 3, 1] [2] (by kernel_rfl) hs34)⟩
  have hc12z := hc12 rfl
  have hlfz35 : ((l ++ m).length : Int) = ((l.length : Int) + (m.length : Int)) := by { first | rfl | omega | (simp only [ek_]; omega) | (simp; done) | (simp; omega) }
  refine rGz [] (On.put (.obj [vi room, rowC k6 (d7 + o9) (l ++ m).length 0 ((l ++ m).length) false]) (On.put (rowO EN true (d7 + o9) (l ++ m)) hs3 3 rfl) 2 rfl) (zA 4 (qL 23 1 (.one (rowC k6 d7 L8.length o9 l.length false)) (On.at hs3 2 rfl)) (zA 6 (Jd1 (H := H) (s := EN) (t := 23) (u := 23) (el := 40) (by_ := 24) (z := [vi 0, vi 0, vb false]) (ty := 0) (pu := true) (puy := true) (id := k6) (d := d7) (o := o9) (n := l.length) (m := m.length) (l := L8) (lm := m) (y := rowC k d L.length o m.length cp) (d' := (d7 + o9)) (l' := (l ++ m)) (n' := (l ++ m).length) (On.at hs3 3 rfl) (slCells_rowO (H := H) (s := EN) (pu := true) (capd := cp) (id := k) (d := d) (o := o) (n := m.length) (l := L) (m := m) (On.at hs3 1 rfl) (by first | rfl | omega | (simp only [ek_]; omega) | (simp; done) | (simp; omega)) (hl)) (by kernel_rfl) (by kernel_rfl) (by kernel_rfl) (by kernel_rfl) (by kernel_rfl) (by kernel_rfl) (by kernel_rfl) (by first | rfl | omega | (simp only [ek_]; omega) | (simp; done) | (simp; omega)) (by first | rfl | omega | (simp only [ek_]; omega) | (simp; done) | (simp; omega)) (by first | rfl | omega | (simp only [ek_]; omega) | (simp; done) | (simp; omega)) (by omega) (by omega) (by omega) (congrArg (fun z => z ++ m) (show L8.drop o9 = l from (List.take_of_length_le (by rw [ei_]; omega)).symm.trans (hl13))) (by first | (simp only [ej_]; done) | (simp only [ej_]; first | omega | (simp; done) | (simp; omega)))) (zL 9 (qS 23 1 (.one (rowC k6 (d7 + o9) (l ++ m).length 0 ((l ++ m).length) false)) (On.at (On.put (rowO EN true (d7 + o9) (l ++ m)) hs3 3 rfl) 2 rfl))))) fun H37 hs38 => ?_
  refine rs0 [(4, xi 0)] ?_
  refine wE ?_
  refine ⟨Or.inr rfl, [.one (vi 0)], (by kernel_rfl), ?_⟩
  have hs39 : On [R, pts k (rowO EN true d L), ringP EN q room (l ++ m)] H37 := sH hs38 [2, 3] [0, 1] (fun _ x => ring_row ⟨by omega, by omega, by first | rfl | omega | (simp only [ek_]; omega) | (simp; done) | (simp; omega)⟩ (by first | rfl | omega | (simp only [ek_]; omega) | (simp; done) | (simp; omega)) (by first | rfl | omega | (simp only [ek_]; omega) | (simp; done) | (simp; omega)) (fun _ => by first | rfl | omega | (simp only [ek_]; omega) | (simp; done) | (simp; omega)) ((dt0 rfl (Nat.le_refl _)).trans (show (l ++ m) = l ++ m from rfl)) x)
  exact ⟨rfl, (On.pick [0, 2, 1] [] (by kernel_rfl) hs39)⟩
 refine rGz [] (On.put (.obj [vi room, rowC k6 d7 L8.length o9 l.length cd10]) hs3 2 rfl) (zA 4 (qL 23 1 (.one (rowC k6 d7 L8.length o9 l.length cd10)) (On.at hs3 2 rfl)) (zA 6 (Jo (H := H) (t := 23) (u := 23) (el := 40) (by_ := 24) (z := [vi 0, vi 0, vb false]) (ty := 0) (sz := 3) (c := rowC k6 d7 L8.length o9 l.length cd10) (y := rowC k d L.length o m.length cp) (cs := l.flatMap (enc EN)) (n := l.length) (pu := true) (cs' := m.flatMap (enc EN)) (puy := true) (slCells_rowO (H := H) (s := EN) (pu := true) (capd := cd10) (id := k6) (d := d7) (o := o9) (n := l.length) (l := L8) (m := l) (On.at hs3 3 rfl) (by first | rfl | omega | (simp only [ek_]; omega) | (simp; done) | (simp; omega)) (hl13)) (((slCells_rowO (H := H) (s := EN) (pu := true) (capd := cp) (id := k) (d := d) (o := o) (n := m.length) (l := L) (m := m) (On.at hs3 1 rfl) (by first | rfl | omega | (simp only [ek_]; omega) | (simp; done) | (simp; omega)) (hl))).trans (by rw [show m.length = 0 from by first | rfl | omega | (simp only [ek_]; omega) | (simp; done) | (simp; omega)])) (by kernel_rfl) (by kernel_rfl) (by kernel_rfl) (by kernel_rfl) (by kernel_rfl) (by kernel_rfl)) (zL 9 (qS 23 1 (.one (rowC k6 d7 L8.length o9 l.length cd10)) (On.at hs3 2 rfl))))) fun H40 hs41 => ?_
 refine rs0 [(4, xi 0)] ?_
 refine wE ?_
 refine ⟨Or.inr rfl, [.one (vi 0)], (by kernel_rfl), ?_⟩
 have hs42 : On [R, pts k (rowO EN true d L), ringP EN q room (l ++ m)] H40 := sH hs41 [2, 3] [0, 1] (fun _ x => ring_row ⟨by omega, by omega, by first | rfl | omega | (simp only [ek_]; omega) | (simp; done) | (simp; omega)⟩ (by first | rfl | omega | (simp only [ek_]; omega) | (simp; done) | (simp; omega)) (by first | rfl | omega | (simp only [ek_]; omega) | (simp; done) | (simp; omega)) (fun h => by have := hc12 h; first | rfl | omega | (simp only [ek_]; omega) | (simp; done) | (simp; omega)) ((hl13).trans (by rw [show m = [] from List.eq_nil_of_length_eq_zero (by omega), eb_])) x)
 exact ⟨rfl, (On.pick [0, 2, 1] [] (by kernel_rfl) hs42)⟩
theorem push_full (R : HP) (H : HH) (q : Nat) (room : Int) (l : List EN.T) (x : EN.T) (hs : On [R, ringP EN q room l] H) (h1 : room ≤ l.length) : ∃ rs H', Runs pg an 42 [.one (.ptr q 0), .agg [vi x.1.1, vi x.1.2.1, vb x.2.1]] H rs H' ∧ rs = [.one (vi 2)] ∧ On [R, ringP EN q room l] H' := by
 refine rOF Try.func42 rfl ?_
 obtain ⟨n1, hn1⟩ := lX H
 refine rGz [(0, yp q), (3, yp n1)] (On.new' hn1 (.obj [vi x.1.1, vi x.1.2.1, vb x.2.1]) hs) (zL 0 (qB 40 [vi x.1.1, vi x.1.2.1, vb x.2.1] hn1)) fun H2 hs3 => ?_
 have hlfz4 : (([x] : List EN.T).length : Int) = 1 := by { first | rfl | omega | (simp only [ek_]; omega) | (simp; done) | (simp; omega) }
 obtain ⟨_, H6, hr7, rfl, hs8⟩ := join_full_s _ (H2 : HH) (On.call [1] [0, 2] (by kernel_rfl) hs3) (q := q) (room := room) (l := l) (b := false) (nil := false) (cp := true) (m := ([x] : List EN.T)) (by first | rfl | omega | (simp only [ek_]; omega) | (simp; done) | (simp; omega))
 have hs8 : On [R, pts n1 (.obj [vi x.1.1, vi x.1.2.1, vb x.2.1]), ringP EN q room l] H6 := On.flat hs8
 refine rGz [(4, xi 2)] hs8 (zA 1 (qA 40 (On.at hs3 2 rfl)) (zL 3 (qC2 hr7))) fun H9 hs10 => ?_
 refine wE ?_
 refine ⟨Or.inr rfl, [.one (vi 2)], (by kernel_rfl), ?_⟩
 exact ⟨rfl, (On.pick [0, 2] [1] (by kernel_rfl) hs10)⟩
theorem push_ok (R : HP) (H : HH) (q : Nat) (room : Int) (l : List EN.T) (x : EN.T) (hs : On [R, ringP EN q room l] H) (h1 : (l.length : Int) < room) : ∃ rs H', Runs pg an 42 [.one (.ptr q 0), .agg [vi x.1.1, vi x.1.2.1, vb x.2.1]] H rs H' ∧ rs = [.one (vi 0)] ∧ On [R, ringP EN q room (l ++ [x])] H' := by
 refine rOF Try.func42 rfl ?_
 obtain ⟨n1, hn1⟩ := lX H
 refine rGz [(0, yp q), (3, yp n1)] (On.new' hn1 (.obj [vi x.1.1, vi x.1.2.1, vb x.2.1]) hs) (zL 0 (qB 40 [vi x.1.1, vi x.1.2.1, vb x.2.1] hn1)) fun H2 hs3 => ?_
 have hlfz4 : (([x] : List EN.T).length : Int) = 1 := by { first | rfl | omega | (simp only [ek_]; omega) | (simp; done) | (simp; omega) }
 have hlfz6 : ((l ++ ([x] : List EN.T)).length : Int) = ((l.length : Int) + 1) := by { first | rfl | omega | (simp only [ek_]; omega) | (simp; done) | (simp; omega) }
 obtain ⟨_, H9, hr10, rfl, hs11⟩ := join_ok_s _ (H2 : HH) (On.call [1] [0, 2] (by kernel_rfl) hs3) (q := q) (room := room) (l := l) (b := false) (nil := false) (cp := true) (m := ([x] : List EN.T)) (by first | rfl | omega | (simp only [ek_]; omega) | (simp; done) | (simp; omega))
 have hs11 : On [R, pts n1 (.obj [vi x.1.1, vi x.1.2.1, vb x.2.1]), ringP EN q room (l ++ ([x] : List EN.T))] H9 := On.flat hs11
 refine rGz [(4, xi 0)] hs11 (zA 1 (qA 40 (On.at hs3 2 rfl)) (zL 3 (qC2 hr10))) fun H12 hs13 => ?_
 refine wE ?_
 refine ⟨Or.inr rfl, [.one (vi 0)], (by kernel_rfl), ?_⟩
 exact ⟨rfl, (On.pick [0, 2] [1] (by kernel_rfl) hs13)⟩
end Go.Proofs.Ytjdnhbnpdbpgbaa
