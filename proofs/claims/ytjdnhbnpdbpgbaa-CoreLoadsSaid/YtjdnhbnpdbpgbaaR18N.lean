/-
  Core: what is lent; the law. (Printed by sx/r18.py.)
-/
import Derived.Test.YtjdnhbnpdbpgbaaR18M
import Derived.Test.YtjdnhbnpdbpgbaaR18L
import Derived.Test.YtjdnhbnpdbpgbaaR18J
namespace Go.Proofs.Ytjdnhbnpdbpgbaa
open Go.Lg
set_option linter.unusedVariables false
set_option maxRecDepth 100000
set_option maxHeartbeats 8000000
set_option linter.unusedSimpArgs false
def mk (n : Nat) : List Int := (List.range n).map fun (j : Nat) => -770000 - (j : Int)
theorem mk_len (n : Nat) : ((mk n).length : Int) = n := by simp [mk]
theorem mk_snoc {S : List Int} {i : Int} (h0 : 0 ≤ i) : S ++ mk i.toNat ++ [-770000 - i] = S ++ mk (i + 1).toNat := by
  rw [show (i + 1).toNat = i.toNat + 1 by omega, List.append_assoc]
  unfold mk
  rw [List.range_succ, List.map_append]
  simp
  omega
theorem mk_get {S : List Int} {i x : Int} {n : Nat} (h0 : 0 ≤ i) (h1 : i < n) (hx : (S ++ mk n)[((S.length : Int) + i).toNat]? = some x) : x = -770000 - i := by
  rw [List.getElem?_append_right (by omega), show ((S.length : Int) + i).toNat - S.length = i.toNat by omega] at hx
  unfold mk at hx
  rw [List.getElem?_map, List.getElem?_range (by omega)] at hx
  simp at hx
  omega
theorem fn11 : PureC pg an 11 [] [.one (vb true)] := pure_of 400 (by kernel_rfl)
theorem alike_t (b nil capd b2 nil2 capd2 : Bool) (S : List Int) (hl : (S.length : Int) ≤ 17592186043904)  : PureC pg an 29 [.one (sv NI b nil capd S), .one (sv NI b2 nil2 capd2 S)] [.one (vb true)] := by
 suffices h : ∃ rs H', Runs pg an 29 [.one (sv NI b nil capd S), .one (sv NI b2 nil2 capd2 S)] [] rs H' ∧ rs.mapM (backY H') = some [.one (vb true)] by
  obtain ⟨rs, H', h1, h2⟩ := h
  exact ⟨rs, H', h1, h2⟩
 refine Runs.of (fn := Try.f29) Try.func29 rfl (by kernel_rfl) [(0, .y (.one (sv NI b nil capd S))), (1, .y (.one (sv NI b2 nil2 capd2 S)))] (by kernel_rfl) ?_
 refine rSq [] [(0, .y (.one (sv NI b nil capd S))), (1, .y (.one (sv NI b2 nil2 capd2 S)))] []
   (cast trivial (by kernel_rfl)) (by kernel_rfl) ?_
 refine Wp.seq ?_
 refine rSq [(4, xb false, [])] [(0, .y (.one (sv NI b nil capd S))), (1, .y (.one (sv NI b2 nil2 capd2 S))), (10, xb false)] []
   (cast (Jai (Ja (vals := [xi (S.length : Int), xi (S.length : Int)]) (H := []) (op := .binOp .neq 3 (.tmp 0) (.tmp 1) 3) (ty := 0) (r := xb (((S.length : Int) : Int) != (S.length : Int))) (v := xb false) (by kernel_rfl) (congrArg (fun z => xb z) (bne_f (by omega)))) trivial) (by kernel_rfl)) (by kernel_rfl) ?_
 refine Wp.condF (by kernel_rfl) ?_
 refine Wp.skip ?_
 refine Wp.seq ?_
 refine rSq [] [(0, .y (.one (sv NI b nil capd S))), (1, .y (.one (sv NI b2 nil2 capd2 S))), (5, xi 0)] []
   (cast trivial (by kernel_rfl)) (by kernel_rfl) ?_
 refine Wp.block ?_
 refine Wp.loop (T := Go.Lg.Heap × Int) (fun (t : Go.Lg.Heap × Int) => match t with | (H2, i) => (((S.length : Int) - i).toNat : Nat)) (fun (t : Go.Lg.Heap × Int) => match t with | (H2, i) => ([(0, .y (.one (sv NI b nil capd S))), (1, .y (.one (sv NI b2 nil2 capd2 S))), (5, xi i)] : Env)) (fun (t : Go.Lg.Heap × Int) => match t with | (H2, i) => (H2 : Go.Lg.Heap))
   (fun (t : Go.Lg.Heap × Int) => match t with | (H2, i) => (On [] H2 ∧ (0 ≤ i) ∧ (i ≤ (S.length : Int)) : Prop)) ([], 0) (by kernel_rfl) (⟨(On.pick [] [] (by kernel_rfl) (On.nil [])), by omega, by omega⟩) ?_
 rintro ⟨H2, i⟩ ⟨hs3, h1, h2⟩
 show Wp _ _ _ _ [(0, .y (.one (sv NI b nil capd S))), (1, .y (.one (sv NI b2 nil2 capd2 S))), (5, xi i)] H2 _
 refine Wp.seq ?_
 by_cases c4 : (i : Int) < (S.length : Int)
 ·
  refine rSq [(3, xb true, H2)] [(0, .y (.one (sv NI b nil capd S))), (1, .y (.one (sv NI b2 nil2 capd2 S))), (5, xi i), (14, xb true)] H2
    (cast (Jai (Ja (vals := [xi i, xi (S.length : Int)]) (H := H2) (op := .binOp .lss 3 (.tmp 0) (.tmp 1) 3) (ty := 0) (r := xb (decide ((i : Int) < (S.length : Int)))) (v := xb true) (by kernel_rfl) (congrArg (fun z => xb z) (decide_eq_true (by omega)))) trivial) (by kernel_rfl)) (by kernel_rfl) ?_
  refine Wp.condT (by kernel_rfl) ?_
  refine Wp.skip ?_
  refine Wp.seq ?_
  refine Wp.block ?_
  obtain ⟨x5, hx5⟩ : ∃ x, S[(i : Int).toNat]? = some x := get_of (by omega)
  refine rSq [(2, .y (.one (.rd ([vi x5] ++ (S.drop ((i : Int).toNat + 1)).flatMap (enc NI)))), H2), (6, .y (.one (.rd ([vi x5] ++ (S.drop ((i : Int).toNat + 1)).flatMap (enc NI)))), H2), (8, xb false, H2)] [(0, .y (.one (sv NI b nil capd S))), (1, .y (.one (sv NI b2 nil2 capd2 S))), (5, xi i), (25, xb false)] H2
    (cast (Jai (Jd (H := H2) (s := NI) (b := b) (nil := nil) (capd := capd) (t := 22) (el := 3) (i := i) Try.underlying22 (by kernel_rfl) (by kernel_rfl) (by omega) hx5) (Jai (Jd (H := H2) (s := NI) (b := b2) (nil := nil2) (capd := capd2) (t := 22) (el := 3) (i := i) Try.underlying22 (by kernel_rfl) (by kernel_rfl) (by omega) hx5) (Jai (Ja (vals := [xi x5, xi x5]) (H := H2) (op := .binOp .neq 3 (.tmp 0) (.tmp 1) 3) (ty := 0) (r := xb ((x5 : Int) != x5)) (v := xb false) (by kernel_rfl) (congrArg (fun z => xb z) (bne_f (by omega)))) trivial))) (by kernel_rfl)) (by kernel_rfl) ?_
  refine Wp.condF (by kernel_rfl) ?_
  refine Wp.skip ?_
  refine Wp.region [(1, xi (i + 1), H2)] [(0, .y (.one (sv NI b nil capd S))), (1, .y (.one (sv NI b2 nil2 capd2 S))), (5, xi (i + 1))] H2
    (cast (Jai (Ja (vals := [xi i, xi 1]) (H := H2) (op := .binOp .add 3 (.tmp 0) (.tmp 1) 3) (ty := 0) (r := xi (IntKind.wrap .i64 (i + 1))) (v := xi (i + 1)) (by kernel_rfl) (congrArg (fun z => xi z) ((wrap64 (by omega)).trans (by omega)))) trivial) (by kernel_rfl)) (by kernel_rfl) ?_
  exact ⟨(H2, (i + 1)), by kernel_rfl, (⟨(On.pick [] [] (by kernel_rfl) hs3), by omega, by omega⟩), (by show (_ : Nat) < _; simp only []; omega)⟩
 ·
  refine rSq [(3, xb false, H2)] [(0, .y (.one (sv NI b nil capd S))), (1, .y (.one (sv NI b2 nil2 capd2 S))), (5, xi i), (14, xb false)] H2
    (cast (Jai (Ja (vals := [xi i, xi (S.length : Int)]) (H := H2) (op := .binOp .lss 3 (.tmp 0) (.tmp 1) 3) (ty := 0) (r := xb (decide ((i : Int) < (S.length : Int)))) (v := xb false) (by kernel_rfl) (congrArg (fun z => xb z) (decide_eq_false (by omega)))) trivial) (by kernel_rfl)) (by kernel_rfl) ?_
  refine Wp.condF (by kernel_rfl) ?_
  refine Wp.exit ?_
  refine Eq.mpr (if_pos rfl) ?_
  refine rSq [] [(4, xb true)] H2
    (cast trivial (by kernel_rfl)) (by kernel_rfl) ?_
  refine Wp.ret ?_
  refine ⟨Or.inr rfl, [.one (vb true)], (by kernel_rfl), ?_⟩
  exact (by kernel_rfl)
theorem lent_ok (R : HP) (H : Go.Lg.Heap) (b nn9 cp : Bool) (S : List Int) (hs : On [R] H) (hsl : (S.length : Int) ≤ 17592186043904) : ∃ rs H', Runs pg an 7 [.one (sv NI b nn9 cp S)] H rs H' ∧ ∃ k, rs = [.one (rowC k 0 (S ++ mk 70).length 0 S.length false)] ∧ On [R, pts k (rowO NI true 0 (S ++ mk 70))] H' := by
 refine Runs.of (fn := Try.f7) Try.func7 rfl (by kernel_rfl) [(0, .y (.one (sv NI b nn9 cp S)))] (by kernel_rfl) ?_
 refine rSq [] [(0, .y (.one (sv NI b nn9 cp S)))] H
   (cast trivial (by kernel_rfl)) (by kernel_rfl) ?_
 obtain ⟨n1, hn1⟩ : ∃ n, n = List.length (H : Go.Lg.Heap) := ⟨_, rfl⟩
 obtain ⟨zs2, hzs2, hlzs2⟩ : ∃ zs : List Int, zs = List.replicate (0 : Int).toNat (0) ∧ (zs.length : Int) = 0 := ⟨_, rfl, by first | (simp; done) | (simp; omega) | omega⟩
 refine rSq [(2, xi ((S.length : Int) + 70), H), (3, .y (.one (rowC n1 0 zs2.length 0 zs2.length false)), (H ++ [rowO NI true 0 zs2]))] [(0, .y (.one (sv NI b nn9 cp S))), (3, .y (.one (rowC n1 0 zs2.length 0 zs2.length false)))] (H ++ [rowO NI true 0 zs2])
   (cast (Jai (Ja (vals := [xi (S.length : Int), xi 70]) (H := H) (op := .binOp .add 3 (.tmp 0) (.tmp 1) 3) (ty := 0) (r := xi (IntKind.wrap .i64 ((S.length : Int) + 70))) (v := xi ((S.length : Int) + 70)) (by kernel_rfl) (congrArg (fun z => xi z) ((wrap64 (by omega)).trans (by omega)))) (Jai (Jf1 (H := H) (s := NI) (t := 22) (el := 3) (ty := 0) (by_ := 8) (k := n1) (n' := zs2.length) (pu := true) (z := 0) (zs := zs2) (n := 0) (c := ((S.length : Int) + 70)) hn1 (by kernel_rfl) hzs2 (by kernel_rfl) (by kernel_rfl) (by kernel_rfl) (by kernel_rfl) (by kernel_rfl) (by omega) (by omega) (by omega) (by omega) (by omega)) trivial)) (by kernel_rfl)) (by kernel_rfl) ?_
 refine Wp.gen (cs := [R, pts n1 (rowO NI true 0 zs2)]) (On.new' hn1 (rowO NI true 0 zs2) hs) ?_
 intro H3 hs4
 by_cases c5 : (0 : Int) < (S.length : Int)
 ·
  have hlfz6 : ((zs2 ++ S).length : Int) = ((zs2.length : Int) + (S.length : Int)) := by { first | rfl | omega | (simp; done) | (simp; omega) }
  refine rSq [(2, .y (.one (rowC n1 0 (zs2 ++ S).length 0 ((zs2 ++ S).length) false)), (List.set (α := O) H3 n1 (rowO NI true 0 (zs2 ++ S))))] [(0, .y (.one (sv NI b nn9 cp S))), (3, .y (.one (rowC n1 0 (zs2 ++ S).length 0 ((zs2 ++ S).length) false)))] (List.set (α := O) H3 n1 (rowO NI true 0 (zs2 ++ S)))
    (cast (Jai (Jn (H := H3) (s := NI) (t := 22) (u := 22) (el := 3) (by_ := 8) (z := [vi 0]) (ty := 0) (pu := true) (puy := true) (id := n1) (d := 0) (o := 0) (n := zs2.length) (m := S.length) (l := zs2) (lm := S) (y := sv NI b nn9 cp S) (d' := 0) (l' := (zs2 ++ S)) (n' := (zs2 ++ S).length) (On.at hs4 1 rfl) (slCells_slO (H := H3) (s := NI) (b := b) (nil := nn9) (capd := cp) (l := S) (n := S.length) (by first | rfl | omega | (simp; done) | (simp; omega))) (by kernel_rfl) (by kernel_rfl) (by kernel_rfl) (by kernel_rfl) (by kernel_rfl) (by kernel_rfl) (by kernel_rfl) (by first | rfl | omega | (simp; done) | (simp; omega)) (by first | rfl | omega | (simp; done) | (simp; omega)) (by first | rfl | omega | (simp; done) | (simp; omega)) (by omega) (by omega) (by omega) (congrArg (fun z => z ++ S) (show zs2.drop 0 = zs2 from (List.take_of_length_le (by rw [List.length_drop]; omega)).symm.trans (dt0 rfl (Nat.le_refl _)))) (by first | (simp only [List.length_append]; done) | (simp only [List.length_append]; first | omega | (simp; done) | (simp; omega)))) trivial) (by kernel_rfl)) (by kernel_rfl) ?_
  refine Wp.gen (cs := [R, pts n1 (rowO NI true 0 (zs2 ++ S))]) (On.put (rowO NI true 0 (zs2 ++ S)) hs4 1 rfl) ?_
  intro H8 hs9
  refine Wp.seq ?_
  refine rSq [] [(0, .y (.one (sv NI b nn9 cp S))), (3, .y (.one (rowC n1 0 (zs2 ++ S).length 0 ((zs2 ++ S).length) false))), (4, xi 0)] H8
    (cast trivial (by kernel_rfl)) (by kernel_rfl) ?_
  refine Wp.block ?_
  refine Wp.loop (T := Go.Lg.Heap × Int × List Int) (fun (t : Go.Lg.Heap × Int × List Int) => match t with | (H11, i, L) => ((70 - i).toNat : Nat)) (fun (t : Go.Lg.Heap × Int × List Int) => match t with | (H11, i, L) => ([(0, .y (.one (sv NI b nn9 cp S))), (3, .y (.one (rowC n1 0 L.length 0 L.length false))), (4, xi i)] : Env)) (fun (t : Go.Lg.Heap × Int × List Int) => match t with | (H11, i, L) => (H11 : Go.Lg.Heap))
    (fun (t : Go.Lg.Heap × Int × List Int) => match t with | (H11, i, L) => (On [R, pts n1 (rowO NI true 0 L)] H11 ∧ (0 ≤ i) ∧ (i ≤ 70) ∧ (L = (S ++ mk (i : Int).toNat)) ∧ ((L.length : Int) = S.length + i) : Prop)) (H8, 0, (zs2 ++ S)) (by kernel_rfl) (⟨(On.pick [0, 1] [] (by kernel_rfl) hs9), by omega, by omega, (by rw [hzs2]; simp [mk]), (by rw [hzs2]; simp)⟩) ?_
  rintro ⟨H11, i, L⟩ ⟨hs12, h1, h2, h3, h4⟩
  show Wp _ _ _ _ [(0, .y (.one (sv NI b nn9 cp S))), (3, .y (.one (rowC n1 0 L.length 0 L.length false))), (4, xi i)] H11 _
  refine Wp.seq ?_
  by_cases c13 : (i : Int) < 70
  ·
   refine rSq [(1, xb true, H11)] [(0, .y (.one (sv NI b nn9 cp S))), (3, .y (.one (rowC n1 0 L.length 0 L.length false))), (4, xi i), (13, xb true)] H11
     (cast (Jai (Ja (vals := [xi i, xi 70]) (H := H11) (op := .binOp .lss 3 (.tmp 0) (.tmp 1) 3) (ty := 0) (r := xb (decide ((i : Int) < 70))) (v := xb true) (by kernel_rfl) (congrArg (fun z => xb z) (decide_eq_true (by omega)))) trivial) (by kernel_rfl)) (by kernel_rfl) ?_
   refine Wp.condT (by kernel_rfl) ?_
   refine Wp.skip ?_
   refine Wp.seq ?_
   refine Wp.block ?_
   have hlfz14 : ([(-i - 770000)].length : Int) = 1 := by { first | rfl | omega | (simp; done) | (simp; omega) }
   have hlfz16 : ((L ++ [(-i - 770000)]).length : Int) = ((L.length : Int) + 1) := by { first | rfl | omega | (simp; done) | (simp; omega) }
   refine rKq [(2, xi (-i - 770000), H11), (4, .y (.one (rowC n1 0 (L ++ [(-i - 770000)]).length 0 ((L ++ [(-i - 770000)]).length) false)), (List.set (α := O) H11 n1 (rowO NI true 0 (L ++ [(-i - 770000)]))))] [(0, .y (.one (sv NI b nn9 cp S))), (3, .y (.one (rowC n1 0 (L ++ [(-i - 770000)]).length 0 ((L ++ [(-i - 770000)]).length) false))), (4, xi i)] (List.set (α := O) H11 n1 (rowO NI true 0 (L ++ [(-i - 770000)])))
     (cast (Jai (Ja (vals := [xi (-770000), xi i]) (H := H11) (op := .binOp .sub 3 (.tmp 0) (.tmp 1) 3) (ty := 0) (r := xi (IntKind.wrap .i64 ((-770000) - i))) (v := xi (-i - 770000)) (by kernel_rfl) (congrArg (fun z => xi z) ((wrap64 (by omega)).trans (by omega)))) (Jai (Jn (H := H11) (s := NI) (t := 22) (u := 22) (el := 3) (by_ := 8) (z := [vi 0]) (ty := 0) (pu := true) (puy := true) (id := n1) (d := 0) (o := 0) (n := L.length) (m := 1) (l := L) (lm := ([(-i - 770000)])) (y := .sl false false true [vi (-i - 770000)] 1) (d' := 0) (l' := (L ++ [(-i - 770000)])) (n' := (L ++ [(-i - 770000)]).length) (On.at hs12 1 rfl) (slCells_slO (H := H11) (s := NI) (b := false) (nil := false) (capd := true) (l := [(-i - 770000)]) (n := 1) (by first | rfl | omega | (simp; done) | (simp; omega))) (by kernel_rfl) (by kernel_rfl) (by kernel_rfl) (by kernel_rfl) (by kernel_rfl) (by kernel_rfl) (by kernel_rfl) (by first | rfl | omega | (simp; done) | (simp; omega)) (by first | rfl | omega | (simp; done) | (simp; omega)) (by first | rfl | omega | (simp; done) | (simp; omega)) (by omega) (by omega) (by omega) (congrArg (fun z => z ++ ([(-i - 770000)])) (show L.drop 0 = L from (List.take_of_length_le (by rw [List.length_drop]; omega)).symm.trans (dt0 rfl (Nat.le_refl _)))) (by first | (simp only [List.length_append]; done) | (simp only [List.length_append]; first | omega | (simp; done) | (simp; omega)))) trivial)) (by kernel_rfl)) (by kernel_rfl) ?_
   refine Wp.gen (cs := [R, pts n1 (rowO NI true 0 (L ++ [(-i - 770000)]))]) (On.put (rowO NI true 0 (L ++ [(-i - 770000)])) hs12 1 rfl) ?_
   intro H19 hs20
   refine Wp.skip ?_
   refine Wp.region [(1, xi (i + 1), H19)] [(0, .y (.one (sv NI b nn9 cp S))), (3, .y (.one (rowC n1 0 (L ++ [(-i - 770000)]).length 0 ((L ++ [(-i - 770000)]).length) false))), (4, xi (i + 1))] H19
     (cast (Jai (Ja (vals := [xi i, xi 1]) (H := H19) (op := .binOp .add 3 (.tmp 0) (.tmp 1) 3) (ty := 0) (r := xi (IntKind.wrap .i64 (i + 1))) (v := xi (i + 1)) (by kernel_rfl) (congrArg (fun z => xi z) ((wrap64 (by omega)).trans (by omega)))) trivial) (by kernel_rfl)) (by kernel_rfl) ?_
   exact ⟨(H19, (i + 1), (L ++ [(-i - 770000)])), by kernel_rfl, (⟨(On.pick [0, 1] [] (by kernel_rfl) hs20), by omega, by omega, (by rw [h3, show (-i - 770000 : Int) = -770000 - i by omega]; exact mk_snoc h1), (by simp only [List.length_append, List.length_cons, List.length_nil]; omega)⟩), (by show (_ : Nat) < _; simp only []; omega)⟩
  ·
   refine rSq [(1, xb false, H11)] [(0, .y (.one (sv NI b nn9 cp S))), (3, .y (.one (rowC n1 0 L.length 0 L.length false))), (4, xi i), (13, xb false)] H11
     (cast (Jai (Ja (vals := [xi i, xi 70]) (H := H11) (op := .binOp .lss 3 (.tmp 0) (.tmp 1) 3) (ty := 0) (r := xb (decide ((i : Int) < 70))) (v := xb false) (by kernel_rfl) (congrArg (fun z => xb z) (decide_eq_false (by omega)))) trivial) (by kernel_rfl)) (by kernel_rfl) ?_
   refine Wp.condF (by kernel_rfl) ?_
   refine Wp.exit ?_
   refine Eq.mpr (if_pos rfl) ?_
   have hlfz21 : ((L.take (((S.length : Int) : Int).toNat)).length : Int) = (S.length : Int) := by { first | rfl | omega | (simp; done) | (simp; omega) }
   refine rSq [(3, .y (.one (rowC n1 0 L.length 0 ((L.take (((S.length : Int) : Int).toNat)).length) false)), H11)] [(2, .y (.one (rowC n1 0 L.length 0 ((L.take (((S.length : Int) : Int).toNat)).length) false)))] H11
     (cast (Jai (Ja1 (H := H11) (s := NI) (t := 22) (el := 3) (ty := 0) (pu := true) (id := n1) (d := 0) (o := 0) (n := L.length) (l := L) (n' := ((L.take (((S.length : Int) : Int).toNat)).length)) (h := (S.length : Int)) (On.at hs12 1 rfl) (by kernel_rfl) (by kernel_rfl) (by omega) (by first | rfl | omega | (simp; done) | (simp; omega)) (by first | rfl | omega | (simp; done) | (simp; omega))) trivial) (by kernel_rfl)) (by kernel_rfl) ?_
   refine Wp.ret ?_
   refine ⟨Or.inr rfl, [.one (rowC n1 0 L.length 0 ((L.take (((S.length : Int) : Int).toNat)).length) false)], (by kernel_rfl), ?_⟩
   have hL : L = S ++ mk 70 := by rw [h3, show i = 70 by omega]; rfl
   have hn9 : (L.take (((S.length : Int) : Int).toNat)).length = S.length := by omega
   exact ⟨n1, by rw [← hL, hn9], by rw [← hL]; exact (On.pick [0, 1] [] (by kernel_rfl) hs12)⟩
 ·
  refine rSq [(2, .y (.one (rowC n1 0 zs2.length 0 zs2.length false)), H3)] [(0, .y (.one (sv NI b nn9 cp S))), (3, .y (.one (rowC n1 0 zs2.length 0 zs2.length false)))] H3
    (cast (Jai (Jo (H := H3) (t := 22) (u := 22) (el := 3) (by_ := 8) (z := [vi 0]) (ty := 0) (sz := 1) (c := rowC n1 0 zs2.length 0 zs2.length false) (y := sv NI b nn9 cp S) (cs := zs2.flatMap (enc NI)) (n := zs2.length) (pu := true) (cs' := S.flatMap (enc NI)) (puy := true) (slCells_rowO (H := H3) (s := NI) (pu := true) (capd := false) (id := n1) (d := 0) (o := 0) (n := zs2.length) (l := zs2) (m := zs2) (On.at hs4 1 rfl) (by first | rfl | omega | (simp; done) | (simp; omega)) (dt0 rfl (Nat.le_refl _))) (((slCells_slO (H := H3) (s := NI) (b := b) (nil := nn9) (capd := cp) (l := S) (n := S.length) (by first | rfl | omega | (simp; done) | (simp; omega)))).trans (by rw [show S.length = 0 from by first | rfl | omega | (simp; done) | (simp; omega)])) (by kernel_rfl) (by kernel_rfl) (by kernel_rfl) (by kernel_rfl) (by kernel_rfl) (by kernel_rfl)) trivial) (by kernel_rfl)) (by kernel_rfl) ?_
  refine Wp.seq ?_
  refine rSq [] [(0, .y (.one (sv NI b nn9 cp S))), (3, .y (.one (rowC n1 0 zs2.length 0 zs2.length false))), (4, xi 0)] H3
    (cast trivial (by kernel_rfl)) (by kernel_rfl) ?_
  refine Wp.block ?_
  refine Wp.loop (T := Go.Lg.Heap × Int × List Int) (fun (t : Go.Lg.Heap × Int × List Int) => match t with | (H24, i, L) => ((70 - i).toNat : Nat)) (fun (t : Go.Lg.Heap × Int × List Int) => match t with | (H24, i, L) => ([(0, .y (.one (sv NI b nn9 cp S))), (3, .y (.one (rowC n1 0 L.length 0 L.length false))), (4, xi i)] : Env)) (fun (t : Go.Lg.Heap × Int × List Int) => match t with | (H24, i, L) => (H24 : Go.Lg.Heap))
    (fun (t : Go.Lg.Heap × Int × List Int) => match t with | (H24, i, L) => (On [R, pts n1 (rowO NI true 0 L)] H24 ∧ (0 ≤ i) ∧ (i ≤ 70) ∧ (L = (S ++ mk (i : Int).toNat)) ∧ ((L.length : Int) = S.length + i) : Prop)) (H3, 0, zs2) (by kernel_rfl) (⟨(On.pick [0, 1] [] (by kernel_rfl) hs4), by omega, by omega, (by rw [hzs2, show S = [] from List.eq_nil_of_length_eq_zero (by omega)]; simp [mk]), by omega⟩) ?_
  rintro ⟨H24, i, L⟩ ⟨hs25, h1, h2, h3, h4⟩
  show Wp _ _ _ _ [(0, .y (.one (sv NI b nn9 cp S))), (3, .y (.one (rowC n1 0 L.length 0 L.length false))), (4, xi i)] H24 _
  refine Wp.seq ?_
  by_cases c26 : (i : Int) < 70
  ·
   refine rSq [(1, xb true, H24)] [(0, .y (.one (sv NI b nn9 cp S))), (3, .y (.one (rowC n1 0 L.length 0 L.length false))), (4, xi i), (13, xb true)] H24
     (cast (Jai (Ja (vals := [xi i, xi 70]) (H := H24) (op := .binOp .lss 3 (.tmp 0) (.tmp 1) 3) (ty := 0) (r := xb (decide ((i : Int) < 70))) (v := xb true) (by kernel_rfl) (congrArg (fun z => xb z) (decide_eq_true (by omega)))) trivial) (by kernel_rfl)) (by kernel_rfl) ?_
   refine Wp.condT (by kernel_rfl) ?_
   refine Wp.skip ?_
   refine Wp.seq ?_
   refine Wp.block ?_
   have hlfz27 : ([(-i - 770000)].length : Int) = 1 := by { first | rfl | omega | (simp; done) | (simp; omega) }
   have hlfz29 : ((L ++ [(-i - 770000)]).length : Int) = ((L.length : Int) + 1) := by { first | rfl | omega | (simp; done) | (simp; omega) }
   refine rKq [(2, xi (-i - 770000), H24), (4, .y (.one (rowC n1 0 (L ++ [(-i - 770000)]).length 0 ((L ++ [(-i - 770000)]).length) false)), (List.set (α := O) H24 n1 (rowO NI true 0 (L ++ [(-i - 770000)]))))] [(0, .y (.one (sv NI b nn9 cp S))), (3, .y (.one (rowC n1 0 (L ++ [(-i - 770000)]).length 0 ((L ++ [(-i - 770000)]).length) false))), (4, xi i)] (List.set (α := O) H24 n1 (rowO NI true 0 (L ++ [(-i - 770000)])))
     (cast (Jai (Ja (vals := [xi (-770000), xi i]) (H := H24) (op := .binOp .sub 3 (.tmp 0) (.tmp 1) 3) (ty := 0) (r := xi (IntKind.wrap .i64 ((-770000) - i))) (v := xi (-i - 770000)) (by kernel_rfl) (congrArg (fun z => xi z) ((wrap64 (by omega)).trans (by omega)))) (Jai (Jn (H := H24) (s := NI) (t := 22) (u := 22) (el := 3) (by_ := 8) (z := [vi 0]) (ty := 0) (pu := true) (puy := true) (id := n1) (d := 0) (o := 0) (n := L.length) (m := 1) (l := L) (lm := ([(-i - 770000)])) (y := .sl false false true [vi (-i - 770000)] 1) (d' := 0) (l' := (L ++ [(-i - 770000)])) (n' := (L ++ [(-i - 770000)]).length) (On.at hs25 1 rfl) (slCells_slO (H := H24) (s := NI) (b := false) (nil := false) (capd := true) (l := [(-i - 770000)]) (n := 1) (by first | rfl | omega | (simp; done) | (simp; omega))) (by kernel_rfl) (by kernel_rfl) (by kernel_rfl) (by kernel_rfl) (by kernel_rfl) (by kernel_rfl) (by kernel_rfl) (by first | rfl | omega | (simp; done) | (simp; omega)) (by first | rfl | omega | (simp; done) | (simp; omega)) (by first | rfl | omega | (simp; done) | (simp; omega)) (by omega) (by omega) (by omega) (congrArg (fun z => z ++ ([(-i - 770000)])) (show L.drop 0 = L from (List.take_of_length_le (by rw [List.length_drop]; omega)).symm.trans (dt0 rfl (Nat.le_refl _)))) (by first | (simp only [List.length_append]; done) | (simp only [List.length_append]; first | omega | (simp; done) | (simp; omega)))) trivial)) (by kernel_rfl)) (by kernel_rfl) ?_
   refine Wp.gen (cs := [R, pts n1 (rowO NI true 0 (L ++ [(-i - 770000)]))]) (On.put (rowO NI true 0 (L ++ [(-i - 770000)])) hs25 1 rfl) ?_
   intro H32 hs33
   refine Wp.skip ?_
   refine Wp.region [(1, xi (i + 1), H32)] [(0, .y (.one (sv NI b nn9 cp S))), (3, .y (.one (rowC n1 0 (L ++ [(-i - 770000)]).length 0 ((L ++ [(-i - 770000)]).length) false))), (4, xi (i + 1))] H32
     (cast (Jai (Ja (vals := [xi i, xi 1]) (H := H32) (op := .binOp .add 3 (.tmp 0) (.tmp 1) 3) (ty := 0) (r := xi (IntKind.wrap .i64 (i + 1))) (v := xi (i + 1)) (by kernel_rfl) (congrArg (fun z => xi z) ((wrap64 (by omega)).trans (by omega)))) trivial) (by kernel_rfl)) (by kernel_rfl) ?_
   exact ⟨(H32, (i + 1), (L ++ [(-i - 770000)])), by kernel_rfl, (⟨(On.pick [0, 1] [] (by kernel_rfl) hs33), by omega, by omega, (by rw [h3, show (-i - 770000 : Int) = -770000 - i by omega]; exact mk_snoc h1), (by simp only [List.length_append, List.length_cons, List.length_nil]; omega)⟩), (by show (_ : Nat) < _; simp only []; omega)⟩
  ·
   refine rSq [(1, xb false, H24)] [(0, .y (.one (sv NI b nn9 cp S))), (3, .y (.one (rowC n1 0 L.length 0 L.length false))), (4, xi i), (13, xb false)] H24
     (cast (Jai (Ja (vals := [xi i, xi 70]) (H := H24) (op := .binOp .lss 3 (.tmp 0) (.tmp 1) 3) (ty := 0) (r := xb (decide ((i : Int) < 70))) (v := xb false) (by kernel_rfl) (congrArg (fun z => xb z) (decide_eq_false (by omega)))) trivial) (by kernel_rfl)) (by kernel_rfl) ?_
   refine Wp.condF (by kernel_rfl) ?_
   refine Wp.exit ?_
   refine Eq.mpr (if_pos rfl) ?_
   have hlfz34 : ((L.take (((S.length : Int) : Int).toNat)).length : Int) = (S.length : Int) := by { first | rfl | omega | (simp; done) | (simp; omega) }
   refine rSq [(3, .y (.one (rowC n1 0 L.length 0 ((L.take (((S.length : Int) : Int).toNat)).length) false)), H24)] [(2, .y (.one (rowC n1 0 L.length 0 ((L.take (((S.length : Int) : Int).toNat)).length) false)))] H24
     (cast (Jai (Ja1 (H := H24) (s := NI) (t := 22) (el := 3) (ty := 0) (pu := true) (id := n1) (d := 0) (o := 0) (n := L.length) (l := L) (n' := ((L.take (((S.length : Int) : Int).toNat)).length)) (h := (S.length : Int)) (On.at hs25 1 rfl) (by kernel_rfl) (by kernel_rfl) (by omega) (by first | rfl | omega | (simp; done) | (simp; omega)) (by first | rfl | omega | (simp; done) | (simp; omega))) trivial) (by kernel_rfl)) (by kernel_rfl) ?_
   refine Wp.ret ?_
   refine ⟨Or.inr rfl, [.one (rowC n1 0 L.length 0 ((L.take (((S.length : Int) : Int).toNat)).length) false)], (by kernel_rfl), ?_⟩
   have hL : L = S ++ mk 70 := by rw [h3, show i = 70 by omega]; rfl
   have hn9 : (L.take (((S.length : Int) : Int).toNat)).length = S.length := by omega
   exact ⟨n1, by rw [← hL, hn9], by rw [← hL]; exact (On.pick [0, 1] [] (by kernel_rfl) hs25)⟩
end Go.Proofs.Ytjdnhbnpdbpgbaa
