/-
  Ring: the document's functions. (Printed by sx/r01s.py.)
-/
import Derived.Test.YtpoaaggjgmdpdaaR01F
namespace Go.Proofs.Ytpoaaggjgmdpdaa
open Go.Lg
set_option linter.unusedVariables false
set_option maxRecDepth 100000
set_option maxHeartbeats 8000000
set_option linter.unusedSimpArgs false
theorem take_snoc {l : List Int} {i : Int} {x : Int} (h : 0 ≤ i) (hx : l[i.toNat]? = some x) : l.take (i + 1).toNat = l.take i.toNat ++ [x] := by
  rw [show (i + 1).toNat = i.toNat + 1 by omega, List.take_add_one, hx]; rfl
theorem alike_next {a b : List Int} {i x y : Int} (h0 : 0 ≤ i) (h : a.take i.toNat = b.take i.toNat) (hx : a[i.toNat]? = some x) (hy : b[i.toNat]? = some y) (e : x = y) : a.take (i + 1).toNat = b.take (i + 1).toNat := by
  rw [take_snoc h0 hx, take_snoc h0 hy, h, e]
theorem alike_not {a b : List Int} {i x y : Int} (hx : a[i.toNat]? = some x) (hy : b[i.toNat]? = some y) (e : ¬ x = y) : decide (a = b) = false := by
  apply decide_eq_false
  rintro rfl
  rw [hx] at hy
  exact e (Option.some.inj hy)

theorem fn17 (b nil capd b2 nil2 capd2 : Bool) (l r : List Int) (hl : (l.length : Int) ≤ 4611686018427387904) (hr : (r.length : Int) ≤ 4611686018427387904)  : PureC pg an 17 [.one (sv NI b nil capd l), .one (sv NI b2 nil2 capd2 r)] [.one (vb (decide (l = r)))] := by
 suffices h : ∃ rs H', Runs pg an 17 [.one (sv NI b nil capd l), .one (sv NI b2 nil2 capd2 r)] [] rs H' ∧ rs.mapM (backY H') = some [.one (vb (decide (l = r)))] by
  obtain ⟨rs, H', h1, h2⟩ := h
  exact ⟨rs, H', h1, h2⟩
 refine Runs.of (fn := Try.f17) Try.func17 rfl (by kernel_rfl) [(0, .y (.one (sv NI b nil capd l))), (1, .y (.one (sv NI b2 nil2 capd2 r)))] (by kernel_rfl) ?_
 refine Wp.regionSeq [] [(0, .y (.one (sv NI b nil capd l))), (1, .y (.one (sv NI b2 nil2 capd2 r)))] []
   (cast trivial (by kernel_rfl)) (by kernel_rfl) ?_
 refine Wp.seq ?_
 by_cases c1 : ((l.length : Int) : Int) = (r.length : Int)
 ·
  refine Wp.regionSeq [(4, xb false, [])] [(0, .y (.one (sv NI b nil capd l))), (1, .y (.one (sv NI b2 nil2 capd2 r))), (10, xb false)] []
    (cast (And.intro (ob_raw (P := pg) (A := an) (vals := [xi (l.length : Int), xi (r.length : Int)]) (H := []) (op := .binOp .neq 3 (.tmp 0) (.tmp 1) 3) (ty := 0) (r := xb (((l.length : Int) : Int) != (r.length : Int))) (v := xb false) (by kernel_rfl) (congrArg (fun z => xb z) (bne_f (by omega)))) trivial) (by kernel_rfl)) (by kernel_rfl) ?_
  refine Wp.condF (by kernel_rfl) ?_
  refine Wp.skip ?_
  refine Wp.seq ?_
  refine Wp.regionSeq [] [(0, .y (.one (sv NI b nil capd l))), (1, .y (.one (sv NI b2 nil2 capd2 r))), (5, xi 0)] []
    (cast trivial (by kernel_rfl)) (by kernel_rfl) ?_
  refine Wp.block ?_
  refine Wp.loop (T := Go.Lg.Heap × Int) (fun (t : Go.Lg.Heap × Int) => match t with | (H3, i) => (((l.length : Int) - i).toNat : Nat)) (fun (t : Go.Lg.Heap × Int) => match t with | (H3, i) => ([(0, .y (.one (sv NI b nil capd l))), (1, .y (.one (sv NI b2 nil2 capd2 r))), (5, xi i)] : Env)) (fun (t : Go.Lg.Heap × Int) => match t with | (H3, i) => (H3 : Go.Lg.Heap))
    (fun (t : Go.Lg.Heap × Int) => match t with | (H3, i) => (On [] H3 ∧ (0 ≤ i) ∧ (i ≤ (l.length : Int)) ∧ (l.take i.toNat = r.take i.toNat) : Prop)) ([], 0) (by kernel_rfl) (⟨(On.pick [] [] rfl (On.nil [])), by omega, by omega, by simp⟩) ?_
  rintro ⟨H3, i⟩ ⟨hs4, h1, h2, h3⟩
  show Wp _ _ _ _ [(0, .y (.one (sv NI b nil capd l))), (1, .y (.one (sv NI b2 nil2 capd2 r))), (5, xi i)] H3 _
  refine Wp.seq ?_
  by_cases c5 : (i : Int) < (l.length : Int)
  ·
   refine Wp.regionSeq [(3, xb true, H3)] [(0, .y (.one (sv NI b nil capd l))), (1, .y (.one (sv NI b2 nil2 capd2 r))), (5, xi i), (14, xb true)] H3
     (cast (And.intro (ob_raw (P := pg) (A := an) (vals := [xi i, xi (l.length : Int)]) (H := H3) (op := .binOp .lss 3 (.tmp 0) (.tmp 1) 3) (ty := 0) (r := xb (decide ((i : Int) < (l.length : Int)))) (v := xb true) (by kernel_rfl) (congrArg (fun z => xb z) (decide_eq_true (by omega)))) trivial) (by kernel_rfl)) (by kernel_rfl) ?_
   refine Wp.condT (by kernel_rfl) ?_
   refine Wp.skip ?_
   refine Wp.seq ?_
   refine Wp.block ?_
   obtain ⟨x6, hx6⟩ : ∃ x, l[(i : Int).toNat]? = some x := get_of (by omega)
   obtain ⟨x7, hx7⟩ : ∃ x, r[(i : Int).toNat]? = some x := get_of (by omega)
   by_cases c8 : (x6 : Int) = x7
   ·
    refine Wp.regionSeq [(2, .y (.one (.rd ([vi x6] ++ (l.drop ((i : Int).toNat + 1)).flatMap (enc NI)))), H3), (6, .y (.one (.rd ([vi x7] ++ (r.drop ((i : Int).toNat + 1)).flatMap (enc NI)))), H3), (8, xb false, H3)] [(0, .y (.one (sv NI b nil capd l))), (1, .y (.one (sv NI b2 nil2 capd2 r))), (5, xi i), (25, xb false)] H3
      (cast (And.intro (ob_index (P := pg) (A := an) (H := H3) (s := NI) (b := b) (nil := nil) (capd := capd) (t := 22) (el := 3) (i := i) Try.underlying22 (by kernel_rfl) (by kernel_rfl) (by omega) hx6) (And.intro (ob_index (P := pg) (A := an) (H := H3) (s := NI) (b := b2) (nil := nil2) (capd := capd2) (t := 22) (el := 3) (i := i) Try.underlying22 (by kernel_rfl) (by kernel_rfl) (by omega) hx7) (And.intro (ob_raw (P := pg) (A := an) (vals := [xi x6, xi x7]) (H := H3) (op := .binOp .neq 3 (.tmp 0) (.tmp 1) 3) (ty := 0) (r := xb ((x6 : Int) != x7)) (v := xb false) (by kernel_rfl) (congrArg (fun z => xb z) (bne_f (by omega)))) trivial))) (by kernel_rfl)) (by kernel_rfl) ?_
    refine Wp.condF (by kernel_rfl) ?_
    refine Wp.skip ?_
    refine Wp.region [(1, xi (i + 1), H3)] [(0, .y (.one (sv NI b nil capd l))), (1, .y (.one (sv NI b2 nil2 capd2 r))), (5, xi (i + 1))] H3
      (cast (And.intro (ob_raw (P := pg) (A := an) (vals := [xi i, xi 1]) (H := H3) (op := .binOp .add 3 (.tmp 0) (.tmp 1) 3) (ty := 0) (r := xi (IntKind.wrap .i64 (i + 1))) (v := xi (i + 1)) (by kernel_rfl) (congrArg (fun z => xi z) ((wrap64 (by omega)).trans (by omega)))) trivial) (by kernel_rfl)) (by kernel_rfl) ?_
    exact ⟨(H3, (i + 1)), by kernel_rfl, (⟨(On.pick [] [] rfl hs4), by omega, by omega, alike_next (by omega) h3 hx6 hx7 (by omega)⟩), (by show (_ : Nat) < _; simp only []; omega)⟩
   ·
    refine Wp.regionSeq [(2, .y (.one (.rd ([vi x6] ++ (l.drop ((i : Int).toNat + 1)).flatMap (enc NI)))), H3), (6, .y (.one (.rd ([vi x7] ++ (r.drop ((i : Int).toNat + 1)).flatMap (enc NI)))), H3), (8, xb true, H3)] [(0, .y (.one (sv NI b nil capd l))), (1, .y (.one (sv NI b2 nil2 capd2 r))), (5, xi i), (25, xb true)] H3
      (cast (And.intro (ob_index (P := pg) (A := an) (H := H3) (s := NI) (b := b) (nil := nil) (capd := capd) (t := 22) (el := 3) (i := i) Try.underlying22 (by kernel_rfl) (by kernel_rfl) (by omega) hx6) (And.intro (ob_index (P := pg) (A := an) (H := H3) (s := NI) (b := b2) (nil := nil2) (capd := capd2) (t := 22) (el := 3) (i := i) Try.underlying22 (by kernel_rfl) (by kernel_rfl) (by omega) hx7) (And.intro (ob_raw (P := pg) (A := an) (vals := [xi x6, xi x7]) (H := H3) (op := .binOp .neq 3 (.tmp 0) (.tmp 1) 3) (ty := 0) (r := xb ((x6 : Int) != x7)) (v := xb true) (by kernel_rfl) (congrArg (fun z => xb z) (bne_t (by omega)))) trivial))) (by kernel_rfl)) (by kernel_rfl) ?_
    refine Wp.condT (by kernel_rfl) ?_
    refine Wp.regionSeq [] [(4, xb false)] H3
      (cast trivial (by kernel_rfl)) (by kernel_rfl) ?_
    refine Wp.ret ?_
    refine ⟨Or.inr rfl, [.one (vb false)], (by kernel_rfl), ?_⟩
    exact (congrArg (fun z => some [Y.one (vb z)]) (show false = decide (l = r) from (alike_not hx6 hx7 (by omega)).symm))
  ·
   refine Wp.regionSeq [(3, xb false, H3)] [(0, .y (.one (sv NI b nil capd l))), (1, .y (.one (sv NI b2 nil2 capd2 r))), (5, xi i), (14, xb false)] H3
     (cast (And.intro (ob_raw (P := pg) (A := an) (vals := [xi i, xi (l.length : Int)]) (H := H3) (op := .binOp .lss 3 (.tmp 0) (.tmp 1) 3) (ty := 0) (r := xb (decide ((i : Int) < (l.length : Int)))) (v := xb false) (by kernel_rfl) (congrArg (fun z => xb z) (decide_eq_false (by omega)))) trivial) (by kernel_rfl)) (by kernel_rfl) ?_
   refine Wp.condF (by kernel_rfl) ?_
   refine Wp.exit ?_
   refine Eq.mpr (if_pos rfl) ?_
   refine Wp.regionSeq [] [(4, xb true)] H3
     (cast trivial (by kernel_rfl)) (by kernel_rfl) ?_
   refine Wp.ret ?_
   refine ⟨Or.inr rfl, [.one (vb true)], (by kernel_rfl), ?_⟩
   exact (congrArg (fun z => some [Y.one (vb z)]) (show true = decide (l = r) from by rw [decide_eq_true]; rw [show i.toNat = l.length by omega, List.take_length] at h3; rw [h3]; exact (List.take_of_length_le (by omega))))
 ·
  refine Wp.regionSeq [(4, xb true, [])] [(0, .y (.one (sv NI b nil capd l))), (1, .y (.one (sv NI b2 nil2 capd2 r))), (10, xb true)] []
    (cast (And.intro (ob_raw (P := pg) (A := an) (vals := [xi (l.length : Int), xi (r.length : Int)]) (H := []) (op := .binOp .neq 3 (.tmp 0) (.tmp 1) 3) (ty := 0) (r := xb (((l.length : Int) : Int) != (r.length : Int))) (v := xb true) (by kernel_rfl) (congrArg (fun z => xb z) (bne_t (by omega)))) trivial) (by kernel_rfl)) (by kernel_rfl) ?_
  refine Wp.condT (by kernel_rfl) ?_
  refine Wp.regionSeq [] [(4, xb false)] []
    (cast trivial (by kernel_rfl)) (by kernel_rfl) ?_
  refine Wp.ret ?_
  refine ⟨Or.inr rfl, [.one (vb false)], (by kernel_rfl), ?_⟩
  exact (congrArg (fun z => some [Y.one (vb z)]) (show false = decide (l = r) from by symm; apply decide_eq_false; rintro rfl; omega))
theorem fn36 (b nil capd b2 nil2 capd2 : Bool) (l r : List Int) (hl : (l.length : Int) ≤ 4398046511104) (hr : (r.length : Int) ≤ 4398046511104)  : ∃ nl : Bool, ∃ cp : Bool, PureC pg an 36 [.one (sv NI b nil capd l), .one (sv NI b2 nil2 capd2 r)] [.one (sv NI false nl cp (l ++ r))] := by
 suffices h : ∃ rs H', Runs pg an 36 [.one (sv NI b nil capd l), .one (sv NI b2 nil2 capd2 r)] [] rs H' ∧ ∃ nl : Bool, ∃ cp : Bool, rs.mapM (backY H') = some [.one (sv NI false nl cp (l ++ r))] by
  obtain ⟨rs, H', h1, nl, cp, h2⟩ := h
  exact ⟨nl, cp, rs, H', h1, h2⟩
 refine Runs.of (fn := Try.f36) Try.func36 rfl (by kernel_rfl) [(0, .y (.one (sv NI b nil capd l))), (1, .y (.one (sv NI b2 nil2 capd2 r)))] (by kernel_rfl) ?_
 refine Wp.regionSeq [] [(0, .y (.one (sv NI b nil capd l))), (1, .y (.one (sv NI b2 nil2 capd2 r)))] []
   (cast trivial (by kernel_rfl)) (by kernel_rfl) ?_
 refine Wp.regionSeq [] [(0, .y (.one (sv NI b nil capd l))), (1, .y (.one (sv NI b2 nil2 capd2 r))), (5, .y (.one (.sl false true true [] 0)))] []
   (cast trivial (by kernel_rfl)) (by kernel_rfl) ?_
 refine Wp.seq ?_
 refine Wp.regionSeq [] [(0, .y (.one (sv NI b nil capd l))), (1, .y (.one (sv NI b2 nil2 capd2 r))), (5, .y (.one (.sl false true true [] 0))), (6, xi 0)] []
   (cast trivial (by kernel_rfl)) (by kernel_rfl) ?_
 refine Wp.block ?_
 have hs1 : On [itemsP NI (.sl false true true [] 0) (l.take (0 : Int).toNat)] [] := On.shut (cs := []) [] [] rfl (fun _ _ => by rw [show (l.take (0 : Int).toNat) = ([] : List Int) from by simp]; exact items_nil) (On.nil [])
 refine Wp.loop (T := Go.Lg.Heap × Int × C) (fun (t : Go.Lg.Heap × Int × C) => match t with | (H3, i, cc) => (((l.length : Int) - i).toNat : Nat)) (fun (t : Go.Lg.Heap × Int × C) => match t with | (H3, i, cc) => ([(0, .y (.one (sv NI b nil capd l))), (1, .y (.one (sv NI b2 nil2 capd2 r))), (5, .y (.one (cc))), (6, xi i)] : Env)) (fun (t : Go.Lg.Heap × Int × C) => match t with | (H3, i, cc) => (H3 : Go.Lg.Heap))
   (fun (t : Go.Lg.Heap × Int × C) => match t with | (H3, i, cc) => (On [itemsP NI cc (l.take (i : Int).toNat)] H3 ∧ (0 ≤ i) ∧ (i ≤ (l.length : Int)) ∧ (((l.take (i : Int).toNat).length : Int) = i) : Prop)) ([], 0, (.sl false true true [] 0)) (by kernel_rfl) (⟨(On.pick [0] [] rfl hs1), by omega, by omega, by first | rfl | omega | (simp only [List.length_nil]; omega) | (simp; done) | (simp; omega)⟩) ?_
 rintro ⟨H3, i, cc⟩ ⟨hs4, g1i, g2i, g3i⟩
 show Wp _ _ _ _ [(0, .y (.one (sv NI b nil capd l))), (1, .y (.one (sv NI b2 nil2 capd2 r))), (5, .y (.one (cc))), (6, xi i)] H3 _
 refine Wp.seq ?_
 by_cases c5 : (i : Int) < (l.length : Int)
 ·
  refine Wp.regionSeq [(3, xb true, H3)] [(0, .y (.one (sv NI b nil capd l))), (1, .y (.one (sv NI b2 nil2 capd2 r))), (5, .y (.one (cc))), (6, xi i), (11, xb true)] H3
    (cast (And.intro (ob_raw (P := pg) (A := an) (vals := [xi i, xi (l.length : Int)]) (H := H3) (op := .binOp .lss 3 (.tmp 0) (.tmp 1) 3) (ty := 0) (r := xb (decide ((i : Int) < (l.length : Int)))) (v := xb true) (by kernel_rfl) (congrArg (fun z => xb z) (decide_eq_true (by omega)))) trivial) (by kernel_rfl)) (by kernel_rfl) ?_
  refine Wp.condT (by kernel_rfl) ?_
  refine Wp.skip ?_
  refine Wp.seq ?_
  refine Wp.block ?_
  obtain ⟨x6, hx6⟩ : ∃ x, l[(i : Int).toNat]? = some x := get_of (by omega)
  obtain ⟨rfl, hl9, hs7⟩ | ⟨k10, d11, L12, o13, cd14, rfl, ho15, hc16, hl17, hs8⟩ := items_open hs4 0 rfl
  ·
   have hl9n : ((l.take (i : Int).toNat).length : Int) = 0 := by rw [hl9]; rfl
   obtain ⟨n18, hn18⟩ : ∃ n, n = List.length (H3 : Go.Lg.Heap) := ⟨_, rfl⟩
   have hlfz19 : ([x6].length : Int) = 1 := by { first | rfl | omega | (simp only [List.length_nil]; omega) | (simp; done) | (simp; omega) }
   refine Wp.regionK [(3, .y (.one (.rd ([vi x6] ++ (l.drop ((i : Int).toNat + 1)).flatMap (enc NI)))), H3), (6, .y (.one (rowC n18 0 ([x6] : List Int).length 0 (([x6] : List Int).length) false)), (H3 ++ [rowO NI true 0 ([x6] : List Int)]))] [(0, .y (.one (sv NI b nil capd l))), (1, .y (.one (sv NI b2 nil2 capd2 r))), (5, .y (.one (rowC n18 0 ([x6] : List Int).length 0 (([x6] : List Int).length) false))), (6, xi i)] (H3 ++ [rowO NI true 0 ([x6] : List Int)])
     (cast (And.intro (ob_index (P := pg) (A := an) (H := H3) (s := NI) (b := b) (nil := nil) (capd := capd) (t := 22) (el := 3) (i := i) Try.underlying22 (by kernel_rfl) (by kernel_rfl) (by omega) hx6) (And.intro (or_append_new (P := pg) (A := an) (H := H3) (s := NI) (t := 22) (u := 22) (el := 3) (by_ := 8) (z := [vi 0]) (ty := 0) (b' := false) (nil' := true) (pu := true) (puy := true) (m := 1) (n' := ([x6] : List Int).length) (k := n18) (nl := 0) (l := ([] : List Int)) (lm := ([x6])) (l' := ([x6] : List Int)) (y := .sl false false true [vi x6] 1) hn18 (by first | rfl | omega | (simp only [List.length_nil]; omega) | (simp; done) | (simp; omega)) (by kernel_rfl) (slCells_slO (H := H3) (s := NI) (b := false) (nil := false) (capd := true) (l := [x6]) (n := 1) (by first | rfl | omega | (simp only [List.length_nil]; omega) | (simp; done) | (simp; omega))) (by kernel_rfl) (by kernel_rfl) (by kernel_rfl) (by kernel_rfl) (by kernel_rfl) (by kernel_rfl) (by kernel_rfl) (by first | rfl | omega | (simp only [List.length_nil]; omega) | (simp; done) | (simp; omega)) (by first | rfl | omega | (simp only [List.length_nil]; omega) | (simp; done) | (simp; omega)) (by omega) (by omega) (List.nil_append _) (by first | rfl | omega | (simp only [List.length_append, List.length_nil]; omega) | (simp; done) | (simp; omega))) trivial)) (by kernel_rfl)) (by kernel_rfl) ?_
   refine Wp.gen (cs := [pts n18 (rowO NI true 0 ([x6] : List Int))]) (On.new' hn18 (rowO NI true 0 ([x6] : List Int)) hs7) ?_
   intro H21 hs22
   refine Wp.skip ?_
   refine Wp.region [(1, xi (i + 1), H21)] [(0, .y (.one (sv NI b nil capd l))), (1, .y (.one (sv NI b2 nil2 capd2 r))), (5, .y (.one (rowC n18 0 ([x6] : List Int).length 0 (([x6] : List Int).length) false))), (6, xi (i + 1))] H21
     (cast (And.intro (ob_raw (P := pg) (A := an) (vals := [xi i, xi 1]) (H := H21) (op := .binOp .add 3 (.tmp 0) (.tmp 1) 3) (ty := 0) (r := xi (IntKind.wrap .i64 (i + 1))) (v := xi (i + 1)) (by kernel_rfl) (congrArg (fun z => xi z) ((wrap64 (by omega)).trans (by omega)))) trivial) (by kernel_rfl)) (by kernel_rfl) ?_
   have hs23 : On [itemsP NI (rowC n18 0 ([x6] : List Int).length 0 (([x6] : List Int).length) false) (l.take ((i + 1) : Int).toNat)] H21 := On.shut (cs := [pts n18 (rowO NI true 0 ([x6] : List Int))]) [0] [] rfl (fun _ x => items_row (by first | rfl | omega | (simp only [List.length_nil]; omega) | (simp; done) | (simp; omega)) (by first | rfl | omega | (simp only [List.length_nil]; omega) | (simp; done) | (simp; omega)) (fun _ => by first | rfl | omega | (simp only [List.length_nil]; omega) | (simp; done) | (simp; omega)) ((dt0 rfl (Nat.le_refl _)).trans (Eq.symm (by have e := hl9; rw [take_snoc (by omega) hx6, e]; rfl))) x) hs22
   exact ⟨(H21, (i + 1), (rowC n18 0 ([x6] : List Int).length 0 (([x6] : List Int).length) false)), by kernel_rfl, (⟨(On.pick [0] [] rfl hs23), by omega, by omega, by simp only [List.length_append, List.length_take]; omega⟩), (by show (_ : Nat) < _; simp only []; omega)⟩
  ·
   rcases Bool.eq_false_or_eq_true cd14 with rfl | rfl
   ·
    obtain ⟨n24, hn24⟩ : ∃ n, n = List.length (H3 : Go.Lg.Heap) := ⟨_, rfl⟩
    have hlfz25 : ([x6].length : Int) = 1 := by { first | rfl | omega | (simp only [List.length_nil]; omega) | (simp; done) | (simp; omega) }
    have hlfz27 : (((l.take (i : Int).toNat) ++ [x6]).length : Int) = (((l.take (i : Int).toNat).length : Int) + 1) := by { first | rfl | omega | (simp only [List.length_nil]; omega) | (simp; done) | (simp; omega) }
    refine Wp.regionK [(3, .y (.one (.rd ([vi x6] ++ (l.drop ((i : Int).toNat + 1)).flatMap (enc NI)))), H3), (6, .y (.one (rowC n24 0 ((l.take (i : Int).toNat) ++ [x6]).length 0 (((l.take (i : Int).toNat) ++ [x6]).length) false)), (H3 ++ [rowO NI true 0 ((l.take (i : Int).toNat) ++ [x6])]))] [(0, .y (.one (sv NI b nil capd l))), (1, .y (.one (sv NI b2 nil2 capd2 r))), (5, .y (.one (rowC n24 0 ((l.take (i : Int).toNat) ++ [x6]).length 0 (((l.take (i : Int).toNat) ++ [x6]).length) false))), (6, xi i)] (H3 ++ [rowO NI true 0 ((l.take (i : Int).toNat) ++ [x6])])
      (cast (And.intro (ob_index (P := pg) (A := an) (H := H3) (s := NI) (b := b) (nil := nil) (capd := capd) (t := 22) (el := 3) (i := i) Try.underlying22 (by kernel_rfl) (by kernel_rfl) (by omega) hx6) (And.intro (or_append_cap (P := pg) (A := an) (H := H3) (s := NI) (t := 22) (u := 22) (el := 3) (by_ := 8) (z := [vi 0]) (ty := 0) (pu := true) (puy := true) (id := k10) (d := d11) (o := o13) (n := ((l.take (i : Int).toNat).length)) (m := 1) (l := L12) (lm := ([x6])) (y := .sl false false true [vi x6] 1) (n' := ((l.take (i : Int).toNat) ++ [x6]).length) (k := n24) (l' := ((l.take (i : Int).toNat) ++ [x6])) hn24 (On.at hs8 0 rfl) (slCells_slO (H := H3) (s := NI) (b := false) (nil := false) (capd := true) (l := [x6]) (n := 1) (by first | rfl | omega | (simp only [List.length_nil]; omega) | (simp; done) | (simp; omega))) (by kernel_rfl) (by kernel_rfl) (by kernel_rfl) (by kernel_rfl) (by kernel_rfl) (by kernel_rfl) (by kernel_rfl) (by first | rfl | omega | (simp only [List.length_nil]; omega) | (simp; done) | (simp; omega)) (by first | rfl | omega | (simp only [List.length_nil]; omega) | (simp; done) | (simp; omega)) (by first | rfl | omega | (simp only [List.length_nil]; omega) | (simp; done) | (simp; omega)) (by omega) (by omega) (congrArg (fun z => z ++ _) (hl17)) (by first | (simp only [List.length_append]; done) | (simp only [List.length_append]; first | omega | (simp; done) | (simp; omega)))) trivial)) (by kernel_rfl)) (by kernel_rfl) ?_
    refine Wp.gen (cs := [pts k10 (rowO NI true d11 L12), pts n24 (rowO NI true 0 ((l.take (i : Int).toNat) ++ [x6]))]) (On.new' hn24 (rowO NI true 0 ((l.take (i : Int).toNat) ++ [x6])) hs8) ?_
    intro H30 hs31
    refine Wp.skip ?_
    refine Wp.region [(1, xi (i + 1), H30)] [(0, .y (.one (sv NI b nil capd l))), (1, .y (.one (sv NI b2 nil2 capd2 r))), (5, .y (.one (rowC n24 0 ((l.take (i : Int).toNat) ++ [x6]).length 0 (((l.take (i : Int).toNat) ++ [x6]).length) false))), (6, xi (i + 1))] H30
      (cast (And.intro (ob_raw (P := pg) (A := an) (vals := [xi i, xi 1]) (H := H30) (op := .binOp .add 3 (.tmp 0) (.tmp 1) 3) (ty := 0) (r := xi (IntKind.wrap .i64 (i + 1))) (v := xi (i + 1)) (by kernel_rfl) (congrArg (fun z => xi z) ((wrap64 (by omega)).trans (by omega)))) trivial) (by kernel_rfl)) (by kernel_rfl) ?_
    have hs32 : On [pts k10 (rowO NI true d11 L12), itemsP NI (rowC n24 0 ((l.take (i : Int).toNat) ++ [x6]).length 0 (((l.take (i : Int).toNat) ++ [x6]).length) false) (l.take ((i + 1) : Int).toNat)] H30 := On.shut (cs := [pts k10 (rowO NI true d11 L12), pts n24 (rowO NI true 0 ((l.take (i : Int).toNat) ++ [x6]))]) [1] [0] rfl (fun _ x => items_row (by first | rfl | omega | (simp only [List.length_nil]; omega) | (simp; done) | (simp; omega)) (by first | rfl | omega | (simp only [List.length_nil]; omega) | (simp; done) | (simp; omega)) (fun _ => by first | rfl | omega | (simp only [List.length_nil]; omega) | (simp; done) | (simp; omega)) ((dt0 rfl (Nat.le_refl _)).trans (Eq.symm (take_snoc (by omega) hx6))) x) hs31
    exact ⟨(H30, (i + 1), (rowC n24 0 ((l.take (i : Int).toNat) ++ [x6]).length 0 (((l.take (i : Int).toNat) ++ [x6]).length) false)), by kernel_rfl, (⟨(On.pick [1] [0] rfl hs32), by omega, by omega, by simp only [List.length_append, List.length_take]; omega⟩), (by show (_ : Nat) < _; simp only []; omega)⟩
   ·
    have hc16z := hc16 rfl
    have hlfz33 : ([x6].length : Int) = 1 := by { first | rfl | omega | (simp only [List.length_nil]; omega) | (simp; done) | (simp; omega) }
    have hlfz35 : (((l.take (i : Int).toNat) ++ [x6]).length : Int) = (((l.take (i : Int).toNat).length : Int) + 1) := by { first | rfl | omega | (simp only [List.length_nil]; omega) | (simp; done) | (simp; omega) }
    refine Wp.regionK [(3, .y (.one (.rd ([vi x6] ++ (l.drop ((i : Int).toNat + 1)).flatMap (enc NI)))), H3), (6, .y (.one (rowC k10 (d11 + o13) ((l.take (i : Int).toNat) ++ [x6]).length 0 (((l.take (i : Int).toNat) ++ [x6]).length) false)), (List.set (α := O) H3 k10 (rowO NI true (d11 + o13) ((l.take (i : Int).toNat) ++ [x6]))))] [(0, .y (.one (sv NI b nil capd l))), (1, .y (.one (sv NI b2 nil2 capd2 r))), (5, .y (.one (rowC k10 (d11 + o13) ((l.take (i : Int).toNat) ++ [x6]).length 0 (((l.take (i : Int).toNat) ++ [x6]).length) false))), (6, xi i)] (List.set (α := O) H3 k10 (rowO NI true (d11 + o13) ((l.take (i : Int).toNat) ++ [x6])))
      (cast (And.intro (ob_index (P := pg) (A := an) (H := H3) (s := NI) (b := b) (nil := nil) (capd := capd) (t := 22) (el := 3) (i := i) Try.underlying22 (by kernel_rfl) (by kernel_rfl) (by omega) hx6) (And.intro (or_append (P := pg) (A := an) (H := H3) (s := NI) (t := 22) (u := 22) (el := 3) (by_ := 8) (z := [vi 0]) (ty := 0) (pu := true) (puy := true) (id := k10) (d := d11) (o := o13) (n := ((l.take (i : Int).toNat).length)) (m := 1) (l := L12) (lm := ([x6])) (y := .sl false false true [vi x6] 1) (d' := (d11 + o13)) (l' := ((l.take (i : Int).toNat) ++ [x6])) (n' := ((l.take (i : Int).toNat) ++ [x6]).length) (On.at hs8 0 rfl) (slCells_slO (H := H3) (s := NI) (b := false) (nil := false) (capd := true) (l := [x6]) (n := 1) (by first | rfl | omega | (simp only [List.length_nil]; omega) | (simp; done) | (simp; omega))) (by kernel_rfl) (by kernel_rfl) (by kernel_rfl) (by kernel_rfl) (by kernel_rfl) (by kernel_rfl) (by kernel_rfl) (by first | rfl | omega | (simp only [List.length_nil]; omega) | (simp; done) | (simp; omega)) (by first | rfl | omega | (simp only [List.length_nil]; omega) | (simp; done) | (simp; omega)) (by first | rfl | omega | (simp only [List.length_nil]; omega) | (simp; done) | (simp; omega)) (by omega) (by omega) (by omega) (congrArg (fun z => z ++ ([x6])) (show L12.drop o13 = (l.take (i : Int).toNat) from (List.take_of_length_le (by rw [List.length_drop]; omega)).symm.trans (hl17))) (by first | (simp only [List.length_append]; done) | (simp only [List.length_append]; first | omega | (simp; done) | (simp; omega)))) trivial)) (by kernel_rfl)) (by kernel_rfl) ?_
    refine Wp.gen (cs := [pts k10 (rowO NI true (d11 + o13) ((l.take (i : Int).toNat) ++ [x6]))]) (On.put (rowO NI true (d11 + o13) ((l.take (i : Int).toNat) ++ [x6])) hs8 0 rfl) ?_
    intro H38 hs39
    refine Wp.skip ?_
    refine Wp.region [(1, xi (i + 1), H38)] [(0, .y (.one (sv NI b nil capd l))), (1, .y (.one (sv NI b2 nil2 capd2 r))), (5, .y (.one (rowC k10 (d11 + o13) ((l.take (i : Int).toNat) ++ [x6]).length 0 (((l.take (i : Int).toNat) ++ [x6]).length) false))), (6, xi (i + 1))] H38
      (cast (And.intro (ob_raw (P := pg) (A := an) (vals := [xi i, xi 1]) (H := H38) (op := .binOp .add 3 (.tmp 0) (.tmp 1) 3) (ty := 0) (r := xi (IntKind.wrap .i64 (i + 1))) (v := xi (i + 1)) (by kernel_rfl) (congrArg (fun z => xi z) ((wrap64 (by omega)).trans (by omega)))) trivial) (by kernel_rfl)) (by kernel_rfl) ?_
    have hs40 : On [itemsP NI (rowC k10 (d11 + o13) ((l.take (i : Int).toNat) ++ [x6]).length 0 (((l.take (i : Int).toNat) ++ [x6]).length) false) (l.take ((i + 1) : Int).toNat)] H38 := On.shut (cs := [pts k10 (rowO NI true (d11 + o13) ((l.take (i : Int).toNat) ++ [x6]))]) [0] [] rfl (fun _ x => items_row (by first | rfl | omega | (simp only [List.length_nil]; omega) | (simp; done) | (simp; omega)) (by first | rfl | omega | (simp only [List.length_nil]; omega) | (simp; done) | (simp; omega)) (fun _ => by first | rfl | omega | (simp only [List.length_nil]; omega) | (simp; done) | (simp; omega)) ((dt0 rfl (Nat.le_refl _)).trans (Eq.symm (take_snoc (by omega) hx6))) x) hs39
    exact ⟨(H38, (i + 1), (rowC k10 (d11 + o13) ((l.take (i : Int).toNat) ++ [x6]).length 0 (((l.take (i : Int).toNat) ++ [x6]).length) false)), by kernel_rfl, (⟨(On.pick [0] [] rfl hs40), by omega, by omega, by simp only [List.length_append, List.length_take]; omega⟩), (by show (_ : Nat) < _; simp only []; omega)⟩
 ·
  refine Wp.regionSeq [(3, xb false, H3)] [(0, .y (.one (sv NI b nil capd l))), (1, .y (.one (sv NI b2 nil2 capd2 r))), (5, .y (.one (cc))), (6, xi i), (11, xb false)] H3
    (cast (And.intro (ob_raw (P := pg) (A := an) (vals := [xi i, xi (l.length : Int)]) (H := H3) (op := .binOp .lss 3 (.tmp 0) (.tmp 1) 3) (ty := 0) (r := xb (decide ((i : Int) < (l.length : Int)))) (v := xb false) (by kernel_rfl) (congrArg (fun z => xb z) (decide_eq_false (by omega)))) trivial) (by kernel_rfl)) (by kernel_rfl) ?_
  refine Wp.condF (by kernel_rfl) ?_
  refine Wp.exit ?_
  refine Eq.mpr (if_pos rfl) ?_
  refine Wp.seq ?_
  refine Wp.regionSeq [] [(1, .y (.one (sv NI b2 nil2 capd2 r))), (5, .y (.one (cc))), (7, xi 0)] H3
    (cast trivial (by kernel_rfl)) (by kernel_rfl) ?_
  refine Wp.block ?_
  have hs41 := On.mono (A' := itemsP NI cc (l ++ r.take (0 : Int).toNat)) 0 rfl (fun h x => by rw [show l ++ r.take (0 : Int).toNat = l.take (i : Int).toNat from by rw [List.take_of_length_le (show l.length ≤ i.toNat by omega)]; simp]; exact x) hs4
  refine Wp.loop (T := Go.Lg.Heap × Int × C) (fun (t : Go.Lg.Heap × Int × C) => match t with | (H43, j, ce) => (((r.length : Int) - j).toNat : Nat)) (fun (t : Go.Lg.Heap × Int × C) => match t with | (H43, j, ce) => ([(1, .y (.one (sv NI b2 nil2 capd2 r))), (5, .y (.one (ce))), (7, xi j)] : Env)) (fun (t : Go.Lg.Heap × Int × C) => match t with | (H43, j, ce) => (H43 : Go.Lg.Heap))
    (fun (t : Go.Lg.Heap × Int × C) => match t with | (H43, j, ce) => (On [itemsP NI ce (l ++ r.take (j : Int).toNat)] H43 ∧ (0 ≤ j) ∧ (j ≤ (r.length : Int)) ∧ (((l ++ r.take (j : Int).toNat).length : Int) = (l.length : Int) + j) : Prop)) (H3, 0, (cc)) (by kernel_rfl) (⟨(On.pick [0] [] rfl hs41), by omega, by omega, by first | rfl | omega | (simp only [List.length_nil]; omega) | (simp; done) | (simp; omega)⟩) ?_
  rintro ⟨H43, j, ce⟩ ⟨hs44, g1j, g2j, g3j⟩
  show Wp _ _ _ _ [(1, .y (.one (sv NI b2 nil2 capd2 r))), (5, .y (.one (ce))), (7, xi j)] H43 _
  refine Wp.seq ?_
  by_cases c45 : (j : Int) < (r.length : Int)
  ·
   refine Wp.regionSeq [(3, xb true, H43)] [(1, .y (.one (sv NI b2 nil2 capd2 r))), (5, .y (.one (ce))), (7, xi j), (24, xb true)] H43
     (cast (And.intro (ob_raw (P := pg) (A := an) (vals := [xi j, xi (r.length : Int)]) (H := H43) (op := .binOp .lss 3 (.tmp 0) (.tmp 1) 3) (ty := 0) (r := xb (decide ((j : Int) < (r.length : Int)))) (v := xb true) (by kernel_rfl) (congrArg (fun z => xb z) (decide_eq_true (by omega)))) trivial) (by kernel_rfl)) (by kernel_rfl) ?_
   refine Wp.condT (by kernel_rfl) ?_
   refine Wp.skip ?_
   refine Wp.seq ?_
   refine Wp.block ?_
   obtain ⟨x46, hx46⟩ : ∃ x, r[(j : Int).toNat]? = some x := get_of (by omega)
   obtain ⟨rfl, hl49, hs47⟩ | ⟨k50, d51, L52, o53, cd54, rfl, ho55, hc56, hl57, hs48⟩ := items_open hs44 0 rfl
   ·
    have hl49n : ((l ++ r.take (j : Int).toNat).length : Int) = 0 := by rw [hl49]; rfl
    obtain ⟨n58, hn58⟩ : ∃ n, n = List.length (H43 : Go.Lg.Heap) := ⟨_, rfl⟩
    have hlfz59 : ([x46].length : Int) = 1 := by { first | rfl | omega | (simp only [List.length_nil]; omega) | (simp; done) | (simp; omega) }
    refine Wp.regionK [(3, .y (.one (.rd ([vi x46] ++ (r.drop ((j : Int).toNat + 1)).flatMap (enc NI)))), H43), (6, .y (.one (rowC n58 0 ([x46] : List Int).length 0 (([x46] : List Int).length) false)), (H43 ++ [rowO NI true 0 ([x46] : List Int)]))] [(1, .y (.one (sv NI b2 nil2 capd2 r))), (5, .y (.one (rowC n58 0 ([x46] : List Int).length 0 (([x46] : List Int).length) false))), (7, xi j)] (H43 ++ [rowO NI true 0 ([x46] : List Int)])
      (cast (And.intro (ob_index (P := pg) (A := an) (H := H43) (s := NI) (b := b2) (nil := nil2) (capd := capd2) (t := 22) (el := 3) (i := j) Try.underlying22 (by kernel_rfl) (by kernel_rfl) (by omega) hx46) (And.intro (or_append_new (P := pg) (A := an) (H := H43) (s := NI) (t := 22) (u := 22) (el := 3) (by_ := 8) (z := [vi 0]) (ty := 0) (b' := false) (nil' := true) (pu := true) (puy := true) (m := 1) (n' := ([x46] : List Int).length) (k := n58) (nl := 0) (l := ([] : List Int)) (lm := ([x46])) (l' := ([x46] : List Int)) (y := .sl false false true [vi x46] 1) hn58 (by first | rfl | omega | (simp only [List.length_nil]; omega) | (simp; done) | (simp; omega)) (by kernel_rfl) (slCells_slO (H := H43) (s := NI) (b := false) (nil := false) (capd := true) (l := [x46]) (n := 1) (by first | rfl | omega | (simp only [List.length_nil]; omega) | (simp; done) | (simp; omega))) (by kernel_rfl) (by kernel_rfl) (by kernel_rfl) (by kernel_rfl) (by kernel_rfl) (by kernel_rfl) (by kernel_rfl) (by first | rfl | omega | (simp only [List.length_nil]; omega) | (simp; done) | (simp; omega)) (by first | rfl | omega | (simp only [List.length_nil]; omega) | (simp; done) | (simp; omega)) (by omega) (by omega) (List.nil_append _) (by first | rfl | omega | (simp only [List.length_append, List.length_nil]; omega) | (simp; done) | (simp; omega))) trivial)) (by kernel_rfl)) (by kernel_rfl) ?_
    refine Wp.gen (cs := [pts n58 (rowO NI true 0 ([x46] : List Int))]) (On.new' hn58 (rowO NI true 0 ([x46] : List Int)) hs47) ?_
    intro H61 hs62
    refine Wp.skip ?_
    refine Wp.region [(1, xi (j + 1), H61)] [(1, .y (.one (sv NI b2 nil2 capd2 r))), (5, .y (.one (rowC n58 0 ([x46] : List Int).length 0 (([x46] : List Int).length) false))), (7, xi (j + 1))] H61
      (cast (And.intro (ob_raw (P := pg) (A := an) (vals := [xi j, xi 1]) (H := H61) (op := .binOp .add 3 (.tmp 0) (.tmp 1) 3) (ty := 0) (r := xi (IntKind.wrap .i64 (j + 1))) (v := xi (j + 1)) (by kernel_rfl) (congrArg (fun z => xi z) ((wrap64 (by omega)).trans (by omega)))) trivial) (by kernel_rfl)) (by kernel_rfl) ?_
    have hs63 : On [itemsP NI (rowC n58 0 ([x46] : List Int).length 0 (([x46] : List Int).length) false) (l ++ r.take ((j + 1) : Int).toNat)] H61 := On.shut (cs := [pts n58 (rowO NI true 0 ([x46] : List Int))]) [0] [] rfl (fun _ x => items_row (by first | rfl | omega | (simp only [List.length_nil]; omega) | (simp; done) | (simp; omega)) (by first | rfl | omega | (simp only [List.length_nil]; omega) | (simp; done) | (simp; omega)) (fun _ => by first | rfl | omega | (simp only [List.length_nil]; omega) | (simp; done) | (simp; omega)) ((dt0 rfl (Nat.le_refl _)).trans (Eq.symm (by have e := hl49; rw [take_snoc (by omega) hx46, ← List.append_assoc, e]; rfl))) x) hs62
    exact ⟨(H61, (j + 1), (rowC n58 0 ([x46] : List Int).length 0 (([x46] : List Int).length) false)), by kernel_rfl, (⟨(On.pick [0] [] rfl hs63), by omega, by omega, by simp only [List.length_append, List.length_take]; omega⟩), (by show (_ : Nat) < _; simp only []; omega)⟩
   ·
    rcases Bool.eq_false_or_eq_true cd54 with rfl | rfl
    ·
     obtain ⟨n64, hn64⟩ : ∃ n, n = List.length (H43 : Go.Lg.Heap) := ⟨_, rfl⟩
     have hlfz65 : ([x46].length : Int) = 1 := by { first | rfl | omega | (simp only [List.length_nil]; omega) | (simp; done) | (simp; omega) }
     have hlfz67 : (((l ++ r.take (j : Int).toNat) ++ [x46]).length : Int) = (((l ++ r.take (j : Int).toNat).length : Int) + 1) := by { first | rfl | omega | (simp only [List.length_nil]; omega) | (simp; done) | (simp; omega) }
     refine Wp.regionK [(3, .y (.one (.rd ([vi x46] ++ (r.drop ((j : Int).toNat + 1)).flatMap (enc NI)))), H43), (6, .y (.one (rowC n64 0 ((l ++ r.take (j : Int).toNat) ++ [x46]).length 0 (((l ++ r.take (j : Int).toNat) ++ [x46]).length) false)), (H43 ++ [rowO NI true 0 ((l ++ r.take (j : Int).toNat) ++ [x46])]))] [(1, .y (.one (sv NI b2 nil2 capd2 r))), (5, .y (.one (rowC n64 0 ((l ++ r.take (j : Int).toNat) ++ [x46]).length 0 (((l ++ r.take (j : Int).toNat) ++ [x46]).length) false))), (7, xi j)] (H43 ++ [rowO NI true 0 ((l ++ r.take (j : Int).toNat) ++ [x46])])
       (cast (And.intro (ob_index (P := pg) (A := an) (H := H43) (s := NI) (b := b2) (nil := nil2) (capd := capd2) (t := 22) (el := 3) (i := j) Try.underlying22 (by kernel_rfl) (by kernel_rfl) (by omega) hx46) (And.intro (or_append_cap (P := pg) (A := an) (H := H43) (s := NI) (t := 22) (u := 22) (el := 3) (by_ := 8) (z := [vi 0]) (ty := 0) (pu := true) (puy := true) (id := k50) (d := d51) (o := o53) (n := ((l ++ r.take (j : Int).toNat).length)) (m := 1) (l := L52) (lm := ([x46])) (y := .sl false false true [vi x46] 1) (n' := ((l ++ r.take (j : Int).toNat) ++ [x46]).length) (k := n64) (l' := ((l ++ r.take (j : Int).toNat) ++ [x46])) hn64 (On.at hs48 0 rfl) (slCells_slO (H := H43) (s := NI) (b := false) (nil := false) (capd := true) (l := [x46]) (n := 1) (by first | rfl | omega | (simp only [List.length_nil]; omega) | (simp; done) | (simp; omega))) (by kernel_rfl) (by kernel_rfl) (by kernel_rfl) (by kernel_rfl) (by kernel_rfl) (by kernel_rfl) (by kernel_rfl) (by first | rfl | omega | (simp only [List.length_nil]; omega) | (simp; done) | (simp; omega)) (by first | rfl | omega | (simp only [List.length_nil]; omega) | (simp; done) | (simp; omega)) (by first | rfl | omega | (simp only [List.length_nil]; omega) | (simp; done) | (simp; omega)) (by omega) (by omega) (congrArg (fun z => z ++ _) (hl57)) (by first | (simp only [List.length_append]; done) | (simp only [List.length_append]; first | omega | (simp; done) | (simp; omega)))) trivial)) (by kernel_rfl)) (by kernel_rfl) ?_
     refine Wp.gen (cs := [pts k50 (rowO NI true d51 L52), pts n64 (rowO NI true 0 ((l ++ r.take (j : Int).toNat) ++ [x46]))]) (On.new' hn64 (rowO NI true 0 ((l ++ r.take (j : Int).toNat) ++ [x46])) hs48) ?_
     intro H70 hs71
     refine Wp.skip ?_
     refine Wp.region [(1, xi (j + 1), H70)] [(1, .y (.one (sv NI b2 nil2 capd2 r))), (5, .y (.one (rowC n64 0 ((l ++ r.take (j : Int).toNat) ++ [x46]).length 0 (((l ++ r.take (j : Int).toNat) ++ [x46]).length) false))), (7, xi (j + 1))] H70
       (cast (And.intro (ob_raw (P := pg) (A := an) (vals := [xi j, xi 1]) (H := H70) (op := .binOp .add 3 (.tmp 0) (.tmp 1) 3) (ty := 0) (r := xi (IntKind.wrap .i64 (j + 1))) (v := xi (j + 1)) (by kernel_rfl) (congrArg (fun z => xi z) ((wrap64 (by omega)).trans (by omega)))) trivial) (by kernel_rfl)) (by kernel_rfl) ?_
     have hs72 : On [pts k50 (rowO NI true d51 L52), itemsP NI (rowC n64 0 ((l ++ r.take (j : Int).toNat) ++ [x46]).length 0 (((l ++ r.take (j : Int).toNat) ++ [x46]).length) false) (l ++ r.take ((j + 1) : Int).toNat)] H70 := On.shut (cs := [pts k50 (rowO NI true d51 L52), pts n64 (rowO NI true 0 ((l ++ r.take (j : Int).toNat) ++ [x46]))]) [1] [0] rfl (fun _ x => items_row (by first | rfl | omega | (simp only [List.length_nil]; omega) | (simp; done) | (simp; omega)) (by first | rfl | omega | (simp only [List.length_nil]; omega) | (simp; done) | (simp; omega)) (fun _ => by first | rfl | omega | (simp only [List.length_nil]; omega) | (simp; done) | (simp; omega)) ((dt0 rfl (Nat.le_refl _)).trans (Eq.symm (by rw [take_snoc (by omega) hx46, List.append_assoc]))) x) hs71
     exact ⟨(H70, (j + 1), (rowC n64 0 ((l ++ r.take (j : Int).toNat) ++ [x46]).length 0 (((l ++ r.take (j : Int).toNat) ++ [x46]).length) false)), by kernel_rfl, (⟨(On.pick [1] [0] rfl hs72), by omega, by omega, by simp only [List.length_append, List.length_take]; omega⟩), (by show (_ : Nat) < _; simp only []; omega)⟩
    ·
     have hc56z := hc56 rfl
     have hlfz73 : ([x46].length : Int) = 1 := by { first | rfl | omega | (simp only [List.length_nil]; omega) | (simp; done) | (simp; omega) }
     have hlfz75 : (((l ++ r.take (j : Int).toNat) ++ [x46]).length : Int) = (((l ++ r.take (j : Int).toNat).length : Int) + 1) := by { first | rfl | omega | (simp only [List.length_nil]; omega) | (simp; done) | (simp; omega) }
     refine Wp.regionK [(3, .y (.one (.rd ([vi x46] ++ (r.drop ((j : Int).toNat + 1)).flatMap (enc NI)))), H43), (6, .y (.one (rowC k50 (d51 + o53) ((l ++ r.take (j : Int).toNat) ++ [x46]).length 0 (((l ++ r.take (j : Int).toNat) ++ [x46]).length) false)), (List.set (α := O) H43 k50 (rowO NI true (d51 + o53) ((l ++ r.take (j : Int).toNat) ++ [x46]))))] [(1, .y (.one (sv NI b2 nil2 capd2 r))), (5, .y (.one (rowC k50 (d51 + o53) ((l ++ r.take (j : Int).toNat) ++ [x46]).length 0 (((l ++ r.take (j : Int).toNat) ++ [x46]).length) false))), (7, xi j)] (List.set (α := O) H43 k50 (rowO NI true (d51 + o53) ((l ++ r.take (j : Int).toNat) ++ [x46])))
       (cast (And.intro (ob_index (P := pg) (A := an) (H := H43) (s := NI) (b := b2) (nil := nil2) (capd := capd2) (t := 22) (el := 3) (i := j) Try.underlying22 (by kernel_rfl) (by kernel_rfl) (by omega) hx46) (And.intro (or_append (P := pg) (A := an) (H := H43) (s := NI) (t := 22) (u := 22) (el := 3) (by_ := 8) (z := [vi 0]) (ty := 0) (pu := true) (puy := true) (id := k50) (d := d51) (o := o53) (n := ((l ++ r.take (j : Int).toNat).length)) (m := 1) (l := L52) (lm := ([x46])) (y := .sl false false true [vi x46] 1) (d' := (d51 + o53)) (l' := ((l ++ r.take (j : Int).toNat) ++ [x46])) (n' := ((l ++ r.take (j : Int).toNat) ++ [x46]).length) (On.at hs48 0 rfl) (slCells_slO (H := H43) (s := NI) (b := false) (nil := false) (capd := true) (l := [x46]) (n := 1) (by first | rfl | omega | (simp only [List.length_nil]; omega) | (simp; done) | (simp; omega))) (by kernel_rfl) (by kernel_rfl) (by kernel_rfl) (by kernel_rfl) (by kernel_rfl) (by kernel_rfl) (by kernel_rfl) (by first | rfl | omega | (simp only [List.length_nil]; omega) | (simp; done) | (simp; omega)) (by first | rfl | omega | (simp only [List.length_nil]; omega) | (simp; done) | (simp; omega)) (by first | rfl | omega | (simp only [List.length_nil]; omega) | (simp; done) | (simp; omega)) (by omega) (by omega) (by omega) (congrArg (fun z => z ++ ([x46])) (show L52.drop o53 = (l ++ r.take (j : Int).toNat) from (List.take_of_length_le (by rw [List.length_drop]; omega)).symm.trans (hl57))) (by first | (simp only [List.length_append]; done) | (simp only [List.length_append]; first | omega | (simp; done) | (simp; omega)))) trivial)) (by kernel_rfl)) (by kernel_rfl) ?_
     refine Wp.gen (cs := [pts k50 (rowO NI true (d51 + o53) ((l ++ r.take (j : Int).toNat) ++ [x46]))]) (On.put (rowO NI true (d51 + o53) ((l ++ r.take (j : Int).toNat) ++ [x46])) hs48 0 rfl) ?_
     intro H78 hs79
     refine Wp.skip ?_
     refine Wp.region [(1, xi (j + 1), H78)] [(1, .y (.one (sv NI b2 nil2 capd2 r))), (5, .y (.one (rowC k50 (d51 + o53) ((l ++ r.take (j : Int).toNat) ++ [x46]).length 0 (((l ++ r.take (j : Int).toNat) ++ [x46]).length) false))), (7, xi (j + 1))] H78
       (cast (And.intro (ob_raw (P := pg) (A := an) (vals := [xi j, xi 1]) (H := H78) (op := .binOp .add 3 (.tmp 0) (.tmp 1) 3) (ty := 0) (r := xi (IntKind.wrap .i64 (j + 1))) (v := xi (j + 1)) (by kernel_rfl) (congrArg (fun z => xi z) ((wrap64 (by omega)).trans (by omega)))) trivial) (by kernel_rfl)) (by kernel_rfl) ?_
     have hs80 : On [itemsP NI (rowC k50 (d51 + o53) ((l ++ r.take (j : Int).toNat) ++ [x46]).length 0 (((l ++ r.take (j : Int).toNat) ++ [x46]).length) false) (l ++ r.take ((j + 1) : Int).toNat)] H78 := On.shut (cs := [pts k50 (rowO NI true (d51 + o53) ((l ++ r.take (j : Int).toNat) ++ [x46]))]) [0] [] rfl (fun _ x => items_row (by first | rfl | omega | (simp only [List.length_nil]; omega) | (simp; done) | (simp; omega)) (by first | rfl | omega | (simp only [List.length_nil]; omega) | (simp; done) | (simp; omega)) (fun _ => by first | rfl | omega | (simp only [List.length_nil]; omega) | (simp; done) | (simp; omega)) ((dt0 rfl (Nat.le_refl _)).trans (Eq.symm (by rw [take_snoc (by omega) hx46, List.append_assoc]))) x) hs79
     exact ⟨(H78, (j + 1), (rowC k50 (d51 + o53) ((l ++ r.take (j : Int).toNat) ++ [x46]).length 0 (((l ++ r.take (j : Int).toNat) ++ [x46]).length) false)), by kernel_rfl, (⟨(On.pick [0] [] rfl hs80), by omega, by omega, by simp only [List.length_append, List.length_take]; omega⟩), (by show (_ : Nat) < _; simp only []; omega)⟩
  ·
   refine Wp.regionSeq [(3, xb false, H43)] [(1, .y (.one (sv NI b2 nil2 capd2 r))), (5, .y (.one (ce))), (7, xi j), (24, xb false)] H43
     (cast (And.intro (ob_raw (P := pg) (A := an) (vals := [xi j, xi (r.length : Int)]) (H := H43) (op := .binOp .lss 3 (.tmp 0) (.tmp 1) 3) (ty := 0) (r := xb (decide ((j : Int) < (r.length : Int)))) (v := xb false) (by kernel_rfl) (congrArg (fun z => xb z) (decide_eq_false (by omega)))) trivial) (by kernel_rfl)) (by kernel_rfl) ?_
   refine Wp.condF (by kernel_rfl) ?_
   refine Wp.exit ?_
   refine Eq.mpr (if_pos rfl) ?_
   refine Wp.regionSeq [] [(4, .y (.one (ce)))] H43
     (cast trivial (by kernel_rfl)) (by kernel_rfl) ?_
   refine Wp.ret ?_
   obtain ⟨rfl, hl83, hs81⟩ | ⟨k84, d85, L86, o87, cd88, rfl, ho89, hc90, hl91, hs82⟩ := items_open hs44 0 rfl
   ·
    have hl83n : ((l ++ r.take (j : Int).toNat).length : Int) = 0 := by rw [hl83]; rfl
    refine ⟨Or.inr rfl, [.one (.sl false true true [] 0)], (by kernel_rfl), ?_⟩
    have e9 : l ++ r = [] := by have e := hl83; rw [List.take_of_length_le (show r.length ≤ j.toNat by omega)] at e; exact e
    rw [e9]
    exact ⟨true, true, by kernel_rfl⟩
   ·
    refine ⟨Or.inr rfl, [.one (rowC k84 d85 L86.length o87 ((l ++ r.take (j : Int).toNat).length) cd88)], (by kernel_rfl), ?_⟩
    have e9 : l ++ r.take (j : Int).toNat = l ++ r := by rw [List.take_of_length_le (show r.length ≤ j.toNat by omega)]
    rw [← e9]
    exact ⟨false, cd88, (back_cons (back_rowO (On.at hs82 0 rfl) (by first | rfl | omega | (simp only [List.length_nil]; omega) | (simp; done) | (simp; omega)) (hl91)) rfl)⟩
end Go.Proofs.Ytpoaaggjgmdpdaa
