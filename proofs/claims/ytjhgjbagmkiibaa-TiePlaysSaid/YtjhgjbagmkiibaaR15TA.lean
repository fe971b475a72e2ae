/- Lemmas. -/
import Derived.Test.YtjhgjbagmkiibaaR15TO
import Derived.Test.YtjhgjbagmkiibaaX30
import Derived.Test.YtjhgjbagmkiibaaX15
section
namespace Go.Proofs.Ytjhgjbagmkiibaa.E1
open Go.Lg
set_option linter.unusedVariables false
set_option maxRecDepth 100000
set_option maxHeartbeats 8000000
set_option linter.unusedSimpArgs false
theorem told_ok (R : HP) (H : Go.Lg.Heap) (tt l mo : Nat) (M : List TI.T) (c : C) (refs : List Int) (hs : On [R, pts tt (.obj [.mp l, .mp mo]), pts mo (monO M), ownP NI c refs] H) (hk : ∀ r ∈ refs, keyB r M = true) (hU : Uniq M) (hn : refs.length ≤ 3518437208883) : ∃ rs H', Runs pg an 33 [.one (.ptr tt 0), .one (c)] H rs H' ∧ ∃ c2, rs = [.one c2] ∧ On [R, pts tt (.obj [.mp l, .mp mo]), pts mo (monO M), ownP NI c refs, ownP TT5 c2 (refs.map (toldOf M))] H' := by
 refine Runs.of (fn := Try.f33) Try.func33 rfl (by kernel_rfl) [(0, .y (.one (.ptr tt 0))), (1, .y (.one (c)))] (by kernel_rfl) ?_
 refine rSq [] [(0, .y (.one (.ptr tt 0))), (1, .y (.one (c)))] H
   (cast trivial (by kernel_rfl)) (by kernel_rfl) ?_
 refine rSq [] [(0, .y (.one (.ptr tt 0))), (1, .y (.one (c))), (5, .y (.one (.sl false true true [] 0)))] H
   (cast trivial (by kernel_rfl)) (by kernel_rfl) ?_
 refine wS ?_
 obtain ⟨rfl, hl3, hs1⟩ | ⟨k4, rfl, k4z, hs2⟩ := own_open hs 3 rfl
 ·
  have hl3n : (refs.length : Int) = 0 := by rw [hl3]; rfl
  refine rSq [] [(0, .y (.one (.ptr tt 0))), (5, .y (.one (.sl false true true [] 0))), (9, .y (.one (.sl false true true [] 0))), (10, xi 0), (11, xi 0)] H
    (cast trivial (by kernel_rfl)) (by kernel_rfl) ?_
  refine wB ?_
  refine Wp.loopU [(0, .y (.one (.ptr tt 0))), (5, .y (.one (.sl false true true [] 0))), (9, .y (.one (.sl false true true [] 0))), (10, xi 0), (11, xi 0)] (some ([0, 5, 9, 10, 11], false)) (List.length H) (by kernel_rfl) ?_
  refine WpL.step ?_
  refine rSq [] [(0, .y (.one (.ptr tt 0))), (5, .y (.one (.sl false true true [] 0))), (9, .y (.one (.sl false true true [] 0))), (10, xi 0), (11, xi 0), (12, xb false)] H
    (cast trivial (by kernel_rfl)) (by kernel_rfl) ?_
  refine wS ?_
  refine wF (by kernel_rfl) ?_
  refine wX ?_
  refine Eq.mpr (if_pos rfl) ?_
  refine rSq [] [(4, .y (.one (.sl false true true [] 0)))] H
    (cast trivial (by kernel_rfl)) (by kernel_rfl) ?_
  refine wE ?_
  refine ⟨Or.inr rfl, [.one (.sl false true true [] 0)], (by kernel_rfl), ?_⟩
  have hs5 : On [R, pts tt (.obj [.mp l, .mp mo]), pts mo (monO M), ownP NI (.sl false true true [] 0) refs] H := On.shut (cs := [R, pts tt (.obj [.mp l, .mp mo]), pts mo (monO M)]) [] [0, 1, 2] (by kernel_rfl) (fun _ _ => by rw [show refs = ([] : List Int) from hl3]; exact .inl ⟨rfl, rfl⟩) hs1
  have hs6 : On [R, pts tt (.obj [.mp l, .mp mo]), pts mo (monO M), ownP NI (.sl false true true [] 0) refs, ownP TT5 ((.sl false true true [] 0)) (refs.map (toldOf M))] H := On.shut (cs := [R, pts tt (.obj [.mp l, .mp mo]), pts mo (monO M), ownP NI (.sl false true true [] 0) refs]) [] [0, 1, 2, 3] (by kernel_rfl) (fun _ _ => by rw [show (refs.map (toldOf M)) = ([] : List TT5.T) from by rw [hl3]; rfl]; exact .inl ⟨rfl, rfl⟩) hs5
  exact ⟨((.sl false true true [] 0)), rfl, (On.pick [0, 1, 2, 3, 4] [] (by kernel_rfl) hs6)⟩
 ·
  refine rSq [(1, xi (refs.length : Int), H)] [(0, .y (.one (.ptr tt 0))), (5, .y (.one (.sl false true true [] 0))), (9, .y (.one (rowC k4 0 refs.length 0 refs.length false))), (10, xi (refs.length : Int)), (11, xi 0)] H
    (cast (And.intro (or_len (P := pg) (A := an) (H := H) (s := NI) (t := 75) (ty := 0) (pu := true) (capd := false) (id := k4) (d := 0) (o := 0) (n := refs.length) (l := refs) (e := (refs.length : Int)) (On.at hs2 3 rfl) (by kernel_rfl) (by first | rfl | omega | (simp only [List.length_nil]; omega) | (simp; done) | (simp; omega))) trivial) (by kernel_rfl)) (by kernel_rfl) ?_
  refine wB ?_
  have hs7 : On [R, pts tt (.obj [.mp l, .mp mo]), pts mo (monO M), pts k4 (rowO NI true 0 refs), ownP TT5 (.sl false true true [] 0) ((refs.take (0 : Int).toNat).map (toldOf M))] H := On.shut (cs := [R, pts tt (.obj [.mp l, .mp mo]), pts mo (monO M), pts k4 (rowO NI true 0 refs)]) [] [0, 1, 2, 3] (by kernel_rfl) (fun _ _ => by rw [show ((refs.take (0 : Int).toNat).map (toldOf M)) = ([] : List TT5.T) from rfl]; exact .inl ⟨rfl, rfl⟩) hs2
  refine Wp.loop (T := Go.Lg.Heap × Int × C) (fun (t : Go.Lg.Heap × Int × C) => match t with | (H9, i, cv) => (((refs.length : Int) - i).toNat : Nat)) (fun (t : Go.Lg.Heap × Int × C) => match t with | (H9, i, cv) => ([(0, .y (.one (.ptr tt 0))), (5, .y (.one (cv))), (9, .y (.one (rowC k4 0 refs.length 0 refs.length false))), (10, xi (refs.length : Int)), (11, xi i)] : Env)) (fun (t : Go.Lg.Heap × Int × C) => match t with | (H9, i, cv) => (H9 : Go.Lg.Heap))
    (fun (t : Go.Lg.Heap × Int × C) => match t with | (H9, i, cv) => (On [R, pts tt (.obj [.mp l, .mp mo]), pts mo (monO M), pts k4 (rowO NI true 0 refs), ownP TT5 cv ((refs.take (i : Int).toNat).map (toldOf M))] H9 ∧ (0 ≤ i) ∧ (i ≤ (refs.length : Int)) ∧ ((((refs.take (i : Int).toNat).map (toldOf M)).length : Int) = i) : Prop)) (H, 0, (.sl false true true [] 0)) (by kernel_rfl) (⟨(On.pick [0, 1, 2, 3, 4] [] (by kernel_rfl) hs7), by omega, by omega, by simp⟩) ?_
  rintro ⟨H9, i, cv⟩ ⟨hs10, h1, h2, h3⟩
  show Wp _ _ _ _ [(0, .y (.one (.ptr tt 0))), (5, .y (.one (cv))), (9, .y (.one (rowC k4 0 refs.length 0 refs.length false))), (10, xi (refs.length : Int)), (11, xi i)] H9 _
  by_cases c11 : (i : Int) < (refs.length : Int)
  ·
   refine rSq [(0, xb true, H9)] [(0, .y (.one (.ptr tt 0))), (5, .y (.one (cv))), (9, .y (.one (rowC k4 0 refs.length 0 refs.length false))), (10, xi (refs.length : Int)), (11, xi i), (12, xb true)] H9
     (cast (And.intro (ob_raw (P := pg) (A := an) (vals := [xi i, xi (refs.length : Int)]) (H := H9) (op := .binOp .lss 3 (.tmp 0) (.tmp 1) 3) (ty := 0) (r := xb (decide ((i : Int) < (refs.length : Int)))) (v := xb true) (by kernel_rfl) (congrArg (fun z => xb z) (decide_eq_true (by omega)))) trivial) (by kernel_rfl)) (by kernel_rfl) ?_
   refine wS ?_
   refine wT (by kernel_rfl) ?_
   refine wK ?_
   refine wS ?_
   refine wB ?_
   obtain ⟨x12, hx12⟩ : ∃ x : Int, refs[(i : Int).toNat]? = some x := get_of (by first | rfl | omega | (simp only [List.length_nil]; omega) | (simp; done) | (simp; omega))
   refine rSq [(0, .y (.one (raC k4 0 refs.length 1 ((i : Int).toNat) 0)), H9), (1, xi x12, H9)] [(0, .y (.one (.ptr tt 0))), (5, .y (.one (cv))), (7, xi x12), (9, .y (.one (rowC k4 0 refs.length 0 refs.length false))), (10, xi (refs.length : Int)), (11, xi i)] H9
     (cast (And.intro (or_index (P := pg) (A := an) (H := H9) (s := NI) (t := 75) (el := 3) (ty := 0) (pu := true) (capd := false) (id := k4) (d := 0) (o := 0) (n := refs.length) (j := ((i : Int).toNat)) (l := refs) (i := i) (On.at hs10 3 rfl) Try.underlying75 (by kernel_rfl) (by omega) (by first | rfl | omega | (simp only [List.length_nil]; omega) | (simp; done) | (simp; omega)) (by first | rfl | omega | (simp only [List.length_nil]; omega) | (simp; done) | (simp; omega)) (by first | rfl | omega | (simp only [List.length_nil]; omega) | (simp; done) | (simp; omega))) (And.intro (or_load (P := pg) (A := an) (H := H9) (s := NI) (t := 3) (ty := 0) (pu := true) (id := k4) (d := 0) (j := ((i : Int).toNat)) (o := 0) (n := 1) (l := refs) (x := x12) (v := .one (vi x12)) (On.at hs10 3 rfl) (by kernel_rfl) (by kernel_rfl) (of_content (L := refs) (o := 0) (n := refs.length) (dt0 rfl (Nat.le_refl _)) hx12 (by first | rfl | omega | (simp only [List.length_nil]; omega) | (simp; done) | (simp; omega))) (by kernel_rfl)) trivial)) (by kernel_rfl)) (by kernel_rfl) ?_
   obtain ⟨w13, hw14, hm15⟩ := mkey (ms := M) (r := x12) hU (hk _ (List.mem_of_getElem? hx12))
   obtain ⟨n16, hn16⟩ : ∃ n, n = List.length (H9 : Go.Lg.Heap) := ⟨_, rfl⟩
   refine rSq [(3, .y (.one (.mp mo)), H9), (5, .y (.agg [vi w13.1.1, vi w13.1.2.1, vi w13.2.1.1, vi w13.2.1.2.1]), H9), (6, .y (.one (.ptr n16 0)), (H9 ++ [.obj [vi 0, vi 0, vi 0, vi 0]])), (7, .tup [], (List.set (α := O) (H9 ++ [.obj [vi 0, vi 0, vi 0, vi 0]]) n16 (.obj [vi w13.1.1, vi w13.1.2.1, vi w13.2.1.1, vi w13.2.1.2.1])))] [(0, .y (.one (.ptr tt 0))), (5, .y (.one (cv))), (7, xi x12), (8, .y (.one (.ptr n16 0))), (9, .y (.one (rowC k4 0 refs.length 0 refs.length false))), (10, xi (refs.length : Int)), (11, xi i)] (List.set (α := O) (H9 ++ [.obj [vi 0, vi 0, vi 0, vi 0]]) n16 (.obj [vi w13.1.1, vi w13.1.2.1, vi w13.2.1.1, vi w13.2.1.2.1]))
     (cast (And.intro (ob_load_ptr (P := pg) (A := an) (H := H9) (t := 59) (ty := 0) (id := tt) (off := 1) (n := 1) (cs := [.mp l, .mp mo]) (cs' := [.mp mo]) (v := .one (.mp mo)) (On.at hs10 1 rfl) (by kernel_rfl) (by kernel_rfl) (by kernel_rfl) (by kernel_rfl)) (And.intro (mo_hit (A := an) (H := H9) (id := mo) (ms := M) (r := x12) (w := w13) (On.at hs10 2 rfl) hw14) (And.intro (ob_alloc (P := pg) (A := an) (H := H9) (t := 72) (ty := 0) (n := n16) (cs := [vi 0, vi 0, vi 0, vi 0]) hn16 (by kernel_rfl)) (And.intro (ob_store_ptr (P := pg) (A := an) (H := (H9 ++ [.obj [vi 0, vi 0, vi 0, vi 0]])) (t := 72) (ty := 0) (id := n16) (off := 0) (cs := [vi 0, vi 0, vi 0, vi 0]) (cs' := [vi w13.1.1, vi w13.1.2.1, vi w13.2.1.1, vi w13.2.1.2.1]) (v := .agg [vi w13.1.1, vi w13.1.2.1, vi w13.2.1.1, vi w13.2.1.2.1]) (On.at (On.new' hn16 (.obj [vi 0, vi 0, vi 0, vi 0]) hs10) 5 rfl) (by kernel_rfl) (by kernel_rfl) (by kernel_rfl)) trivial)))) (by kernel_rfl)) (by kernel_rfl) ?_
   refine wG (cs := [R, pts tt (.obj [.mp l, .mp mo]), pts mo (monO M), pts k4 (rowO NI true 0 refs), ownP TT5 cv ((refs.take (i : Int).toNat).map (toldOf M)), pts n16 (.obj [vi w13.1.1, vi w13.1.2.1, vi w13.2.1.1, vi w13.2.1.2.1])]) (On.put (.obj [vi w13.1.1, vi w13.1.2.1, vi w13.2.1.1, vi w13.2.1.2.1]) (On.new' hn16 (.obj [vi 0, vi 0, vi 0, vi 0]) hs10) 5 rfl) ?_
   intro H17 hs18
   obtain ⟨cv19, H20, ho21, hs22⟩ := or_append_own (P := pg) (A := an) (s := TT5) (t := 35) (u := 35) (el := 41) (by_ := 40) (z := [vi 0, vi 0, vi 0, vi 0, vi 0]) (ty := 0) (y := .sl false false true [vi x12, vi w13.1.1, vi w13.1.2.1, vi w13.2.1.1, vi w13.2.1.2.1] 1) (lm := ([(x12, w13)])) (m := 1) hs18 4 rfl ((slCells_slO (H := H17) (s := TT5) (b := false) (nil := false) (capd := true) (l := [(x12, w13)]) (n := 1) (by first | rfl | omega | (simp only [List.length_nil]; omega) | (simp; done) | (simp; omega)))) (by kernel_rfl) (by kernel_rfl) (by kernel_rfl) (by kernel_rfl) (by kernel_rfl) (by kernel_rfl) (by kernel_rfl) (by first | rfl | omega | (simp only [List.length_nil]; omega) | (simp; done) | (simp; omega)) (by omega) (by omega)
   have hs22l : ((((refs.take (i : Int).toNat).map (toldOf M)) ++ ([(x12, w13)])).length : Int) = ((((refs.take (i : Int).toNat).map (toldOf M)).length : Int) + 1) := by { first | omega | (simp only [List.length_append]; omega) | (simp; done) | (simp; omega) }
   refine rKq [(3, .y (.agg [vi w13.1.1, vi w13.1.2.1]), H17), (5, .y (.agg [vi w13.2.1.1, vi w13.2.1.2.1]), H17), (8, .y (.one (cv19)), H20)] [(0, .y (.one (.ptr tt 0))), (5, .y (.one (cv19))), (9, .y (.one (rowC k4 0 refs.length 0 refs.length false))), (10, xi (refs.length : Int)), (11, xi i)] H20
     (cast (And.intro (ob_load_ptr (P := pg) (A := an) (H := H17) (t := 24) (ty := 0) (id := n16) (off := 0) (n := 2) (cs := [vi w13.1.1, vi w13.1.2.1, vi w13.2.1.1, vi w13.2.1.2.1]) (cs' := [vi w13.1.1, vi w13.1.2.1]) (v := .agg [vi w13.1.1, vi w13.1.2.1]) (On.at hs18 5 rfl) (by kernel_rfl) (by kernel_rfl) (by kernel_rfl) (by kernel_rfl)) (And.intro (ob_load_ptr (P := pg) (A := an) (H := H17) (t := 24) (ty := 0) (id := n16) (off := 2) (n := 2) (cs := [vi w13.1.1, vi w13.1.2.1, vi w13.2.1.1, vi w13.2.1.2.1]) (cs' := [vi w13.2.1.1, vi w13.2.1.2.1]) (v := .agg [vi w13.2.1.1, vi w13.2.1.2.1]) (On.at hs18 5 rfl) (by kernel_rfl) (by kernel_rfl) (by kernel_rfl) (by kernel_rfl)) (And.intro ho21 trivial))) (by kernel_rfl)) (by kernel_rfl) ?_
   refine wG (cs := [R, pts tt (.obj [.mp l, .mp mo]), pts mo (monO M), pts k4 (rowO NI true 0 refs), pts n16 (.obj [vi w13.1.1, vi w13.1.2.1, vi w13.2.1.1, vi w13.2.1.2.1]), ownP TT5 cv19 (((refs.take (i : Int).toNat).map (toldOf M)) ++ ([(x12, w13)]))]) hs22 ?_
   intro H23 hs24
   refine wK ?_
   refine wR [(0, xi (i + 1), H23)] [(0, .y (.one (.ptr tt 0))), (5, .y (.one (cv19))), (9, .y (.one (rowC k4 0 refs.length 0 refs.length false))), (10, xi (refs.length : Int)), (11, xi (i + 1))] H23
     (cast (And.intro (ob_raw (P := pg) (A := an) (vals := [xi i, xi 1]) (H := H23) (op := .binOp .add 3 (.tmp 0) (.tmp 1) 3) (ty := 0) (r := xi (IntKind.wrap .i64 (i + 1))) (v := xi (i + 1)) (by kernel_rfl) (congrArg (fun z => xi z) ((wrap64 (by omega)).trans (by omega)))) trivial) (by kernel_rfl)) (by kernel_rfl) ?_
   exact ⟨(H23, (i + 1), cv19), by kernel_rfl, (⟨(On.pick [0, 1, 2, 3, 5] [4] (by kernel_rfl) (On.mono (A' := ownP TT5 cv19 ((refs.take ((i + 1) : Int).toNat).map (toldOf M))) 5 rfl (fun _ x => by rw [← (show (((refs.take (i : Int).toNat).map (toldOf M)) ++ ([(x12, w13)])) = ((refs.take ((i + 1) : Int).toNat).map (toldOf M)) from told_step h1 hx12 hw14)]; exact x) hs24)), by omega, by omega, (by simp only [List.length_map, List.length_take]; omega)⟩), (by show (_ : Nat) < _; simp only []; omega)⟩
  ·
   refine rSq [(0, xb false, H9)] [(0, .y (.one (.ptr tt 0))), (5, .y (.one (cv))), (9, .y (.one (rowC k4 0 refs.length 0 refs.length false))), (10, xi (refs.length : Int)), (11, xi i), (12, xb false)] H9
     (cast (And.intro (ob_raw (P := pg) (A := an) (vals := [xi i, xi (refs.length : Int)]) (H := H9) (op := .binOp .lss 3 (.tmp 0) (.tmp 1) 3) (ty := 0) (r := xb (decide ((i : Int) < (refs.length : Int)))) (v := xb false) (by kernel_rfl) (congrArg (fun z => xb z) (decide_eq_false (by omega)))) trivial) (by kernel_rfl)) (by kernel_rfl) ?_
   refine wS ?_
   refine wF (by kernel_rfl) ?_
   refine wX ?_
   refine Eq.mpr (if_pos rfl) ?_
   refine rSq [] [(4, .y (.one (cv)))] H9
     (cast trivial (by kernel_rfl)) (by kernel_rfl) ?_
   refine wE ?_
   refine ⟨Or.inr rfl, [.one (cv)], (by kernel_rfl), ?_⟩
   have hs25 : On [R, pts tt (.obj [.mp l, .mp mo]), pts mo (monO M), ownP TT5 cv ((refs.take (i : Int).toNat).map (toldOf M)), ownP NI (rowC k4 0 refs.length 0 refs.length false) refs] H9 := On.shut (cs := [R, pts tt (.obj [.mp l, .mp mo]), pts mo (monO M), pts k4 (rowO NI true 0 refs), ownP TT5 cv ((refs.take (i : Int).toNat).map (toldOf M))]) [3] [0, 1, 2, 4] (by kernel_rfl) (fun _ x => by rw [show refs = refs from rfl]; exact own_row (by first | assumption | (simp; done)) x) hs10
   exact ⟨cv, rfl, (On.pick [0, 1, 2, 4, 3] [] (by kernel_rfl) (On.mono (A' := ownP TT5 cv (refs.map (toldOf M))) 3 rfl (fun _ x => by rw [← (show ((refs.take (i : Int).toNat).map (toldOf M)) = (refs.map (toldOf M)) from told_end (by omega))]; exact x) hs25))⟩
theorem all_x (R : HP) (H : Go.Lg.Heap) (tt l mo ck : Nat) (es : Array MapEntry) (L : List PR.T) (M : List TI.T) (hs : On [R, pts tt (.obj [.mp l, .mp mo]), pts l (mapO es ck), pts mo (monO M)] H) (hB : BagOk (L.map enL) es ck) (hok : L.all okL = true) (hn : L.length ≤ 3518437208883) (hU : Uniq M) (hMn : M.length ≤ 3518437208883) (hLM : L.length + M.length ≤ 3518437208883) : XWp pg an 16 (Try.f16.body.getD .skip) [(0, .y (.one (.ptr tt 0)))] H fun x e9 H9 => (x = .normal ∨ x = .ret) ∧ ∃ ys, (∀ H8, Try.f16.results.toList.mapM (resX pg e9 H8) = some ys) ∧ ∃ c, ys = [.one c] ∧ On [R, pts tt (.obj [.mp l, .mp mo]), pts l (mapO es ck), pts mo (monO M), ownP TT5 c (allOf L M)] H9 := by
 unfold Try.f16
 show XWp _ _ _ _ [(0, .y (.one (.ptr tt 0)))] H _
 refine XWp.regionSeq [] [(0, .y (.one (.ptr tt 0)))] H
   (cast trivial (by kernel_rfl)) (by kernel_rfl) ?_
 refine XWp.seq ?_
 have hcall1 : Runs pg an 29 [.one (.ptr tt 0)] H [.one (vb true)] H := by
  refine runs_of ?_
  refine Runs.of (fn := Try.f29) Try.func29 rfl (by kernel_rfl) [(0, .y (.one (.ptr tt 0)))] (by kernel_rfl) ?_
  refine rSq [] [(0, .y (.one (.ptr tt 0)))] H
    (cast trivial (by kernel_rfl)) (by kernel_rfl) ?_
  refine rSq [(6, .y (.one (.mp l)), H)] [(2, xb true)] H
    (cast (And.intro (ob_load_ptr (P := pg) (A := an) (H := H) (t := 58) (ty := 0) (id := tt) (off := 0) (n := 1) (cs := [.mp l, .mp mo]) (cs' := [.mp l]) (v := .one (.mp l)) (On.at hs 1 rfl) (by kernel_rfl) (by kernel_rfl) (by kernel_rfl) (by kernel_rfl)) trivial) (by kernel_rfl)) (by kernel_rfl) ?_
  refine wE ?_
  exact ⟨Or.inr rfl, [.one (vb true)], (by kernel_rfl), ⟨rfl, rfl⟩⟩
 refine XWp.regionSeq [(1, xb true, H)] [(0, .y (.one (.ptr tt 0))), (7, xb false)] H
   (cast (And.intro (ob_call (P := pg) (A := an) (H := H) (g := 29) (vals := [.y (.one (.ptr tt 0))]) (xs0 := [.one (.ptr tt 0)]) (res := [.one (vb true)]) (ats := #[]) (ty := 0) (v := xb true) (H' := H) [.tmp 0] (by kernel_rfl) (by kernel_rfl) hcall1 (by kernel_rfl)) trivial) (by kernel_rfl)) (by kernel_rfl) ?_
 refine XWp.condF (by kernel_rfl) ?_
 refine XWp.skip ?_
 refine XWp.regionSeq [] [(0, .y (.one (.ptr tt 0))), (3, .y (.one (.sl false true true [] 0)))] H
   (cast trivial (by kernel_rfl)) (by kernel_rfl) ?_
 refine XWp.seq ?_
 obtain ⟨n2, hn2⟩ : ∃ n, n = List.length (H : Go.Lg.Heap) := ⟨_, rfl⟩
 refine XWp.regionSeq [(3, .y (.one (.mp l)), H), (4, .y (.one (.it n2)), (H ++ [iterO l ck #[]]))] [(0, .y (.one (.ptr tt 0))), (3, .y (.one (.sl false true true [] 0))), (12, .y (.one (.it n2)))] (H ++ [iterO l ck #[]])
   (cast (And.intro (ob_load_ptr (P := pg) (A := an) (H := H) (t := 58) (ty := 0) (id := tt) (off := 0) (n := 1) (cs := [.mp l, .mp mo]) (cs' := [.mp l]) (v := .one (.mp l)) (On.at hs 1 rfl) (by kernel_rfl) (by kernel_rfl) (by kernel_rfl) (by kernel_rfl)) (And.intro (ob_range (P := pg) (A := an) (H := H) (t := 58) (ty := 0) (m := l) (n := n2) (ck := ck) (es := es) hn2 (by kernel_rfl) (On.at hs 2 rfl)) trivial)) (by kernel_rfl)) (by kernel_rfl) ?_
 refine XWp.gen (cs := [R, pts tt (.obj [.mp l, .mp mo]), pts l (mapO es ck), pts mo (monO M), pts n2 (iterO l ck #[])]) (On.new' hn2 (iterO l ck #[]) hs) ?_
 intro H3 hs4
 refine XWp.block ?_
 have hs5 : On [R, pts tt (.obj [.mp l, .mp mo]), pts l (mapO es ck), pts mo (monO M), pts n2 (iterO l ck #[]), ownP TT5 (.sl false true true [] 0) (([] : List PR.T).map tieL)] H3 := On.shut (cs := [R, pts tt (.obj [.mp l, .mp mo]), pts l (mapO es ck), pts mo (monO M), pts n2 (iterO l ck #[])]) [] [0, 1, 2, 3, 4] (by kernel_rfl) (fun _ _ => by rw [show (([] : List PR.T).map tieL) = ([] : List TT5.T) from rfl]; exact .inl ⟨rfl, rfl⟩) hs4
 refine XWp.loop (T := Go.Lg.Heap × Nat × Array Nat × List PR.T × C) (fun (t : Go.Lg.Heap × Nat × Array Nat × List PR.T × C) => match t with | (H7, it, seen, D, cv) => (L.length - D.length : Nat)) (fun (t : Go.Lg.Heap × Nat × Array Nat × List PR.T × C) => match t with | (H7, it, seen, D, cv) => ([(0, .y (.one (.ptr tt 0))), (3, .y (.one (cv))), (12, .y (.one (.it it)))] : Env)) (fun (t : Go.Lg.Heap × Nat × Array Nat × List PR.T × C) => match t with | (H7, it, seen, D, cv) => (H7 : Go.Lg.Heap))
   (fun (t : Go.Lg.Heap × Nat × Array Nat × List PR.T × C) => match t with | (H7, it, seen, D, cv) => (On [R, pts tt (.obj [.mp l, .mp mo]), pts l (mapO es ck), pts mo (monO M), pts it (iterO l ck seen), ownP TT5 cv (D.map tieL)] H7 ∧ (Went enL es seen D) : Prop)) (H3, n2, #[], [], (.sl false true true [] 0)) (by kernel_rfl) (⟨(On.pick [0, 1, 2, 3, 4, 5] [] (by kernel_rfl) hs5), went_nil _ _⟩) ?_
 rintro ⟨H7, it, seen, D, cv⟩ ⟨hs8, hW⟩
 show XWp _ _ _ _ [(0, .y (.one (.ptr tt 0))), (3, .y (.one (cv))), (12, .y (.one (.it it)))] H7 _
 refine XWp.nextE (L := L) (D := D) (eF := [(0, .y (.one (.ptr tt 0))), (3, .y (.one (cv))), (12, .y (.one (.it it))), (14, xb false)]) (eT := [(0, .y (.one (.ptr tt 0))), (3, .y (.one (cv))), (12, .y (.one (.it it))), (14, xb true)]) enL_inj ⟨rfl, rfl, rfl⟩ ⟨rfl, rfl, rfl⟩ rfl (On.at hs8 4 rfl) (On.at hs8 2 rfl) hB hW (by kernel_rfl) (fun _ _ => by kernel_rfl) ?_ ?_
 ·
  intro hp9
  refine XWp.seq ?_
  refine XWp.condF (by kernel_rfl) ?_
  refine XWp.exit ?_
  refine Eq.mpr (if_pos rfl) ?_
  obtain ⟨_, H11, hr12, rfl, hs13⟩ := sortK (A := an) rfl rfl _ (H7 : Go.Lg.Heap) (c := cv) (l := (D.map tieL)) (okKs hok hp9) (lenKs hn hp9) (On.call [5] [0, 1, 2, 3, 4] (by kernel_rfl) hs8)
  have hs13 : On [R, pts tt (.obj [.mp l, .mp mo]), pts l (mapO es ck), pts mo (monO M), pts it (iterO l ck seen), ownP TT5 cv (isort ltK (D.map tieL))] H11 := On.flat hs13
  have hk10 : ((isort ltK (D.map tieL)).length : Int) = (L.length : Int) := lenKL hp9
  refine XWp.regionSeq [(1, .tup [], H11)] [(0, .y (.one (.ptr tt 0))), (3, .y (.one (cv)))] H11
    (cast (And.intro (ob_call (P := pg) (A := an) (H := H7) (g := 38) (vals := [.y (.one (cv)), .y (.one (.fn (.func 39) [] []))]) (xs0 := [.one (cv), .one (.fn (.func 39) [] [])]) (res := []) (ats := #[]) (ty := 0) (v := .tup []) (H' := H11) [.tmp 0, .tmp 1] (by kernel_rfl) (by kernel_rfl) hr12 (by kernel_rfl)) trivial) (by kernel_rfl)) (by kernel_rfl) ?_
  refine XWp.gen (cs := [R, pts tt (.obj [.mp l, .mp mo]), pts l (mapO es ck), pts mo (monO M), pts it (iterO l ck seen), ownP TT5 cv (isort ltK (D.map tieL))]) hs13 ?_
  intro H14 hs15
  obtain ⟨_, H18, hr19, c16, rfl, hs20⟩ := refs40_c (A := an) rfl rfl _ (H14 : Go.Lg.Heap) tt l mo M (On.call [1, 3] [0, 2, 4, 5] (by kernel_rfl) hs15) hU hMn
  have hs20 : On [R, pts l (mapO es ck), pts it (iterO l ck seen), ownP TT5 cv (isort ltK (D.map tieL)), pts tt (.obj [.mp l, .mp mo]), pts mo (monO M), ownP NI c16 (isort ltI (refOf q40 M))] H18 := On.flat hs20
  have hz17 : ((isort ltI (refOf q40 M)).length : Int) ≤ (M.length : Int) := lenIM q40 M
  obtain ⟨_, H23, hr24, c21, rfl, hs25⟩ := told_ok _ (H18 : Go.Lg.Heap) tt l mo M c16 (isort ltI (refOf q40 M)) (On.call [4, 5, 6] [0, 1, 2, 3] (by kernel_rfl) hs20) (keysIn q40 _) hU (lenI hMn)
  have hs25 : On [R, pts l (mapO es ck), pts it (iterO l ck seen), ownP TT5 cv (isort ltK (D.map tieL)), pts tt (.obj [.mp l, .mp mo]), pts mo (monO M), ownP NI c16 (isort ltI (refOf q40 M)), ownP TT5 c21 ((isort ltI (refOf q40 M)).map (toldOf M))] H23 := On.flat hs25
  have ht22 : (((isort ltI (refOf q40 M)).map (toldOf M)).length : Int) ≤ (M.length : Int) := by have := lenIM q40 M; rw [List.length_map]; omega
  obtain ⟨cv26, H27, ho28, hs29⟩ := or_append_own (P := pg) (A := an) (s := TT5) (t := 35) (u := 35) (el := 41) (by_ := 40) (z := [vi 0, vi 0, vi 0, vi 0, vi 0]) (ty := 0) (y := c21) (lm := ((isort ltI (refOf q40 M)).map (toldOf M))) (m := (((isort ltI (refOf q40 M)).map (toldOf M)).length)) hs25 3 rfl ((own_cells hs25 7 rfl)) (by kernel_rfl) (by kernel_rfl) (by kernel_rfl) (by kernel_rfl) (by kernel_rfl) (by kernel_rfl) (by kernel_rfl) (by first | rfl | omega | (simp only [List.length_nil]; omega) | (simp; done) | (simp; omega)) (by omega) (by omega)
  have hs29l : (((isort ltK (D.map tieL)) ++ ((isort ltI (refOf q40 M)).map (toldOf M))).length : Int) = (((isort ltK (D.map tieL)).length : Int) + (((isort ltI (refOf q40 M)).map (toldOf M)).length : Int)) := by { first | omega | (simp only [List.length_append]; omega) | (simp; done) | (simp; omega) }
  refine XWp.regionSeq [(3, .y (.one (c16)), H18), (4, .y (.one (c21)), H23), (5, .y (.one (cv26)), H27)] [(2, .y (.one (cv26)))] H27
    (cast (And.intro (ob_call (P := pg) (A := an) (H := H14) (g := 34) (vals := [.y (.one (.ptr tt 0)), .y (.one (.fn (.func 40) [] []))]) (xs0 := [.one (.ptr tt 0), .one (.fn (.func 40) [] [])]) (res := [.one (c16)]) (ats := #[]) (ty := 0) (v := .y (.one (c16))) (H' := H18) [.tmp 0, .tmp 1] (by kernel_rfl) (by kernel_rfl) hr19 (by kernel_rfl)) (And.intro (ob_call (P := pg) (A := an) (H := H18) (g := 33) (vals := [.y (.one (.ptr tt 0)), .y (.one (c16))]) (xs0 := [.one (.ptr tt 0), .one (c16)]) (res := [.one (c21)]) (ats := #[]) (ty := 0) (v := .y (.one (c21))) (H' := H23) [.tmp 0, .tmp 1] (by kernel_rfl) (by kernel_rfl) hr24 (by kernel_rfl)) (And.intro ho28 trivial))) (by kernel_rfl)) (by kernel_rfl) ?_
  refine XWp.gen (cs := [R, pts l (mapO es ck), pts it (iterO l ck seen), pts tt (.obj [.mp l, .mp mo]), pts mo (monO M), ownP NI c16 (isort ltI (refOf q40 M)), ownP TT5 c21 ((isort ltI (refOf q40 M)).map (toldOf M)), ownP TT5 cv26 ((isort ltK (D.map tieL)) ++ ((isort ltI (refOf q40 M)).map (toldOf M)))]) hs29 ?_
  intro H30 hs31
  refine XWp.ret ?_
  refine ⟨Or.inr rfl, [.one (cv26)], fun _ => by kernel_rfl, ?_⟩
  exact ⟨cv26, rfl, (On.pick [0, 3, 1, 4, 7] [2, 5, 6] (by kernel_rfl) (On.mono (A' := ownP TT5 cv26 (allOf L M)) 7 rfl (fun _ x => by rw [← (show ((isort ltK (D.map tieL)) ++ ((isort ltI (refOf q40 M)).map (toldOf M))) = (allOf L M) from by unfold allOf; rw [← allPerm hp9])]; exact x) hs31))⟩
 ·
  intro x32 d33 hx34 hd35 he36 hw37 hl38
  refine XWp.gen (cs := [R, pts tt (.obj [.mp l, .mp mo]), pts l (mapO es ck), pts mo (monO M), pts it (iterO l ck (Array.push seen d33.born)), ownP TT5 cv (D.map tieL)]) (On.put (iterO l ck (Array.push seen d33.born)) hs8 4 rfl) ?_
  intro H39 hs40
  have hL41 : ((D.map tieL).length : Int) ≤ D.length := by rw [List.length_map]; exact Int.le_refl _
  refine XWp.seq ?_
  refine XWp.condT (by kernel_rfl) ?_
  refine XWp.skip ?_
  refine XWp.block ?_
  obtain ⟨n42, hn42⟩ : ∃ n, n = List.length (H39 : Go.Lg.Heap) := ⟨_, rfl⟩
  refine XWp.regionSeq [(0, .tup [.agg [vi x32.1.1, vi x32.1.2.1, vi x32.2.1.1, vi x32.2.1.2.1], .one (vi 1)], H39), (2, .y (.one (.ptr n42 0)), (H39 ++ [.obj [vi 0, vi 0, vi 0, vi 0]])), (3, .tup [], (List.set (α := O) (H39 ++ [.obj [vi 0, vi 0, vi 0, vi 0]]) n42 (.obj [vi x32.1.1, vi x32.1.2.1, vi x32.2.1.1, vi x32.2.1.2.1])))] [(0, .y (.one (.ptr tt 0))), (3, .y (.one (cv))), (4, .y (.one (.ptr n42 0))), (12, .y (.one (.it it)))] (List.set (α := O) (H39 ++ [.obj [vi 0, vi 0, vi 0, vi 0]]) n42 (.obj [vi x32.1.1, vi x32.1.2.1, vi x32.2.1.1, vi x32.2.1.2.1]))
    (cast (And.intro (ob_entry (P := pg) (A := an) (H := H39) (ty := 0) (it := it) (k := .agg [vi x32.1.1, vi x32.1.2.1, vi x32.2.1.1, vi x32.2.1.2.1]) (v := .one (vi 1)) (On.at hs40 4 rfl) (On.at hs40 2 rfl) hB.2.1 hd35 (by rw [← (Prod.mk.inj he36).1]; exact ofV_PR x32) (by rw [← (Prod.mk.inj he36).2]; rfl)) (And.intro (ob_alloc (P := pg) (A := an) (H := H39) (t := 67) (ty := 0) (n := n42) (cs := [vi 0, vi 0, vi 0, vi 0]) hn42 (by kernel_rfl)) (And.intro (ob_store_ptr (P := pg) (A := an) (H := (H39 ++ [.obj [vi 0, vi 0, vi 0, vi 0]])) (t := 67) (ty := 0) (id := n42) (off := 0) (cs := [vi 0, vi 0, vi 0, vi 0]) (cs' := [vi x32.1.1, vi x32.1.2.1, vi x32.2.1.1, vi x32.2.1.2.1]) (v := .agg [vi x32.1.1, vi x32.1.2.1, vi x32.2.1.1, vi x32.2.1.2.1]) (On.at (On.new' hn42 (.obj [vi 0, vi 0, vi 0, vi 0]) hs40) 6 rfl) (by kernel_rfl) (by kernel_rfl) (by kernel_rfl)) trivial))) (by kernel_rfl)) (by kernel_rfl) ?_
  refine XWp.gen (cs := [R, pts tt (.obj [.mp l, .mp mo]), pts l (mapO es ck), pts mo (monO M), pts it (iterO l ck (Array.push seen d33.born)), ownP TT5 cv (D.map tieL), pts n42 (.obj [vi x32.1.1, vi x32.1.2.1, vi x32.2.1.1, vi x32.2.1.2.1])]) (On.put (.obj [vi x32.1.1, vi x32.1.2.1, vi x32.2.1.1, vi x32.2.1.2.1]) (On.new' hn42 (.obj [vi 0, vi 0, vi 0, vi 0]) hs40) 6 rfl) ?_
  intro H43 hs44
  obtain ⟨cv45, H46, ho47, hs48⟩ := or_append_own (P := pg) (A := an) (s := TT5) (t := 35) (u := 35) (el := 41) (by_ := 40) (z := [vi 0, vi 0, vi 0, vi 0, vi 0]) (ty := 0) (y := .sl false false true [vi 0, vi x32.1.1, vi x32.1.2.1, vi x32.2.1.1, vi x32.2.1.2.1] 1) (lm := ([(0, x32)])) (m := 1) hs44 5 rfl ((slCells_slO (H := H43) (s := TT5) (b := false) (nil := false) (capd := true) (l := [(0, x32)]) (n := 1) (by first | rfl | omega | (simp only [List.length_nil]; omega) | (simp; done) | (simp; omega)))) (by kernel_rfl) (by kernel_rfl) (by kernel_rfl) (by kernel_rfl) (by kernel_rfl) (by kernel_rfl) (by kernel_rfl) (by first | rfl | omega | (simp only [List.length_nil]; omega) | (simp; done) | (simp; omega)) (by omega) (by omega)
  have hs48l : (((D.map tieL) ++ ([(0, x32)])).length : Int) = (((D.map tieL).length : Int) + 1) := by { first | omega | (simp only [List.length_append]; omega) | (simp; done) | (simp; omega) }
  refine XWp.regionK [(2, .y (.agg [vi x32.1.1, vi x32.1.2.1]), H43), (4, .y (.agg [vi x32.2.1.1, vi x32.2.1.2.1]), H43), (7, .y (.one (cv45)), H46)] [(0, .y (.one (.ptr tt 0))), (3, .y (.one (cv45))), (12, .y (.one (.it it)))] H46
    (cast (And.intro (ob_load_ptr (P := pg) (A := an) (H := H43) (t := 24) (ty := 0) (id := n42) (off := 0) (n := 2) (cs := [vi x32.1.1, vi x32.1.2.1, vi x32.2.1.1, vi x32.2.1.2.1]) (cs' := [vi x32.1.1, vi x32.1.2.1]) (v := .agg [vi x32.1.1, vi x32.1.2.1]) (On.at hs44 6 rfl) (by kernel_rfl) (by kernel_rfl) (by kernel_rfl) (by kernel_rfl)) (And.intro (ob_load_ptr (P := pg) (A := an) (H := H43) (t := 24) (ty := 0) (id := n42) (off := 2) (n := 2) (cs := [vi x32.1.1, vi x32.1.2.1, vi x32.2.1.1, vi x32.2.1.2.1]) (cs' := [vi x32.2.1.1, vi x32.2.1.2.1]) (v := .agg [vi x32.2.1.1, vi x32.2.1.2.1]) (On.at hs44 6 rfl) (by kernel_rfl) (by kernel_rfl) (by kernel_rfl) (by kernel_rfl)) (And.intro ho47 trivial))) (by kernel_rfl)) (by kernel_rfl) ?_
  refine wG (cs := [R, pts tt (.obj [.mp l, .mp mo]), pts l (mapO es ck), pts mo (monO M), pts it (iterO l ck (Array.push seen d33.born)), pts n42 (.obj [vi x32.1.1, vi x32.1.2.1, vi x32.2.1.1, vi x32.2.1.2.1]), ownP TT5 cv45 ((D.map tieL) ++ ([(0, x32)]))]) hs48 ?_
  intro H49 hs50
  refine wK ?_
  exact ⟨(H49, it, (Array.push seen d33.born), (D ++ [x32]), cv45), by kernel_rfl, (⟨(On.pick [0, 1, 2, 3, 4, 6] [5] (by kernel_rfl) (On.mono (A' := ownP TT5 cv45 ((D ++ [x32]).map tieL)) 6 rfl (fun _ x => by rw [← (show ((D.map tieL) ++ ([(0, x32)])) = ((D ++ [x32]).map tieL) from by rw [List.map_append]; rfl)]; exact x) hs50)), hw37⟩), (by show (_ : Nat) < _; simp only [List.length_append, List.length_cons, List.length_nil]; omega)⟩
end Go.Proofs.Ytjhgjbagmkiibaa.E1
end
section
namespace Go.Proofs.Ytjhgjbagmkiibaa
open Go.Lg Go.Sort
set_option maxRecDepth 100000
set_option linter.unusedVariables false
set_option maxHeartbeats 4000000
def spAll (args : List Y) (H : Heap) : Option (List Y × Heap) := match args with
 | [.one (.ptr t off)] => if off = 0 then (tiesAt H t).map fun p => retW TT5 (allOf p.2.2.1 p.2.2.2) H else none
 | _ => none
theorem all_ok : SpOk pg 16 spAll := by
 refine SpOk.of_code (A := E1.an) (c := Try.f16.body.getD .skip) E0.pok E1.aok Try.func16 rfl (by kernel_rfl) ?_
 intro args H rs H1 hF hsp
 unfold spAll at hsp
 split at hsp
 case h_2 => cases hsp
 rename_i t off
 split at hsp
 case isFalse => cases hsp
 rename_i h0; subst h0
 obtain ⟨⟨l, mo, L, M⟩, hT, hsp⟩ := Option.map_eq_some_iff.1 hsp
 have T := tiesAt_is hT
 have ho := objAt_obj hF T.obj
 obtain ⟨o1, o2, o3, o4, o5⟩ := okTies_is T.ok
 have o6 := okTies_sum T.ok
 have hne : l ≠ t := by
  rintro rfl
  have := T.lnk
  rw [ho] at this; cases this
 have hne2 : mo ≠ t := by
  rintro rfl
  have := T.mon
  rw [ho] at this; cases this
 have hlm := T.ne
 refine ⟨Nat.le_of_ble_eq_true (by kernel_rfl), ?_⟩
 have := wild_row (A := E1.an) (f := 16) (c0 := Try.f16.body.getD .skip) (e0 := [(0, .y (.one (.ptr t 0)))]) (s := TT5) (l := allOf L M) (res := Try.f16.results.toList) T.lnk fun es ck hb => ?_
 ·rw [hsp] at this
  exact this
 ·have hl : (H.set l (mapO es ck))[l]? = some (mapO es ck) := by simp [lt_of_get T.lnk]
  have ht : (H.set l (mapO es ck))[t]? = some (.obj [.mp l, .mp mo]) := by rw [List.getElem?_set_ne hne]; exact ho
  have hm : (H.set l (mapO es ck))[mo]? = some (monO M) := by rw [List.getElem?_set_ne hlm]; exact T.mon
  refine (E1.all_x (allBut (H.set l (mapO es ck)) [t, l, mo]) _ t l mo ck es L M (on_allBut (is := [t, l, mo]) (os := [.obj [.mp l, .mp mo], mapO es ck, monO M]) (by simp [hne.symm, hne2.symm, hlm]) rfl (by
   intro p hp
   simp only [List.zip_cons_cons, List.zip_nil_right, List.mem_cons, List.not_mem_nil, or_false] at hp
   rcases hp with rfl | rfl | rfl
   ·exact ht
   ·exact hl
   ·exact hm)) hb o1 o4 o3 o5 o6).mono ?_
  rintro x e H9 ⟨hx, ys, hys, c, rfl, hon⟩
  exact ⟨hx, _, hys, c, rfl, On.shut (cs := [allBut (H.set l (mapO es ck)) [t, l, mo], pts t (.obj [.mp l, .mp mo]), pts l (mapO es ck), pts mo (monO M), ownP TT5 c (allOf L M)]) [0, 1, 2, 3] [4] (by kernel_rfl) (fun _ x => allBut_three ht hl hm x) hon⟩
theorem all_hid : SpHid spAll := by
 intro args H1 r h R n0 H2 hh
 unfold spAll at h ⊢
 split at h
 case h_2 => cases h
 split at h
 case isFalse => cases h
 rename_i h0
 rw [if_pos h0]
 obtain ⟨p, hT, h⟩ := Option.map_eq_some_iff.1 h
 cases h
 rw [tiesAt_hid hh hT]
 exact retW_hid hh _ _
theorem all_c {A : Ann} (hm : A.may 16 = false) (hs : A.spec 16 = some spAll) (R : HP) (H : Heap) (tt l mo : Nat) (L : List PR.T) (M : List TI.T) (h : On [R, pts tt (.obj [.mp l, .mp mo]), pts l (lnkO L), pts mo (monO M)] H) (hok : okTies L M = true) :
  ∃ rs H', Runs pg A 16 [.one (.ptr tt 0)] H rs H' ∧ ∃ c, rs = [.one c] ∧ On [R, pts tt (.obj [.mp l, .mp mo]), pts l (lnkO L), pts mo (monO M), ownP TT5 c (allOf L M)] H' := by
 obtain ⟨c, H', e, h2⟩ := on_retW (s := TT5) (l := allOf L M) h
 refine ⟨_, _, Runs.spec hm hs ?_, c, rfl, h2⟩
 have T : TiesIn H tt l mo L M := ⟨by unfold objAt; rw [On.at h 1 rfl], On.at h 2 rfl, On.at h 3 rfl, hok, on_ne (On.pick [2, 3, 1, 0] [] (by kernel_rfl) h)⟩
 unfold spAll
 simp only [if_true, T.at, Option.map_some]
 rw [← e]
end Go.Proofs.Ytjhgjbagmkiibaa
end
section
namespace Go.Proofs.Ytjhgjbagmkiibaa.E
open Go.Lg
set_option linter.unusedVariables false
set_option maxRecDepth 100000
set_option maxHeartbeats 8000000
set_option linter.unusedSimpArgs false
def liveT : List (Nat × List (Nat × List Nat)) := [(3, [(0, [0, 3]), (1, [0, 3, 5]), (2, [0, 3, 5, 18]), (3, [4]), (4, [0, 3, 5, 6]), (5, [0, 3, 5, 6, 22]), (6, [0, 3, 5, 6]), (7, [0, 3, 5, 6, 7]), (8, [0, 3, 5, 6, 7, 30]), (9, [0, 3, 5, 6, 7, 30, 31]), (10, [0, 3, 5, 6, 7, 8]), (11, [0, 3, 5, 6, 60]), (12, [4]), (13, [0, 3, 5, 6, 7, 30, 61]), (14, [0, 3, 5, 6, 7, 9]), (15, [0, 3, 5, 6, 88]), (16, [4]), (17, [0, 3, 5, 6, 7, 89]), (18, [0, 3, 5, 6]), (19, [3, 5, 10]), (20, [3, 5, 10, 11, 12]), (21, [3, 5, 12, 123]), (22, [4]), (23, [3, 5, 12, 13]), (24, [3, 5, 12, 13, 127]), (25, [3, 5, 12, 13]), (26, [3, 5, 12, 13, 163]), (27, [4]), (28, [3, 14]), (29, [3, 14, 15]), (30, [3, 14, 15, 169]), (31, [3, 14, 15]), (32, [3, 14, 15, 187]), (33, [4]), (34, [4])]),
 (4, [(0, [0]), (1, [0, 3]), (2, [0, 3]), (3, [0, 3, 4, 5]), (4, [0, 3, 4, 5, 6, 7]), (5, [3, 4, 6, 7, 37]), (6, [2]), (7, [3, 4, 6, 7, 8]), (8, [3, 4, 6, 7, 8, 41]), (9, [3, 4, 6, 7, 8]), (10, [3, 4, 6, 7, 8]), (11, [2])]),
 (5, [(0, [0]), (1, [0, 3]), (2, [0, 3, 4]), (3, [0, 3, 4, 16]), (4, [2]), (5, [0, 3, 4, 5]), (6, [0, 3, 4, 5, 6]), (7, [0, 3, 4, 5, 6, 7]), (8, [0, 3, 4, 5, 6, 7, 20]), (9, [0, 3, 4, 5, 6, 7]), (10, [0, 3, 4, 5, 6, 7, 8, 9]), (11, [0, 3, 4, 5, 6, 7, 8, 9, 10]), (12, [0, 3, 4, 5, 6, 7, 8, 67]), (13, [2]), (14, [0, 3, 4, 5, 6, 7]), (15, [0, 3, 4, 5, 6, 7, 74]), (16, [0, 3, 4, 5, 6, 7]), (17, [0, 3, 4, 5, 6, 7]), (18, [0, 3, 4, 5, 6, 7, 79]), (19, [2]), (20, [0, 3, 4, 5, 6, 7, 86]), (21, [0, 3, 4, 5, 6, 7, 11, 12]), (22, [0, 3, 4, 5, 6, 7, 11, 100]), (23, [2]), (24, [0, 3, 4, 5, 6, 7]), (25, [2])]),
 (7, [(0, []), (1, [0])]),
 (8, [(0, [0, 4, 5]), (1, [0, 4, 5, 12]), (2, [6]), (3, [0, 7]), (4, [0, 7, 22]), (5, [6]), (6, [0, 7, 24]), (7, [6]), (8, []), (9, [6])]),
 (9, [(0, [0, 3]), (1, [0, 3, 5]), (2, [0, 3, 5, 9]), (3, [0, 3, 5]), (4, [0, 3, 5, 17]), (5, [4]), (6, [4])]),
 (11, [(0, [0, 4, 5]), (1, [0, 4, 5, 12]), (2, [6]), (3, [0, 7]), (4, [0, 7, 22]), (5, [6]), (6, []), (7, [6])]),
 (12, [(0, [0, 1, 6, 7]), (1, [0, 1, 6, 7, 31]), (2, [8]), (3, [0, 1, 6, 7, 10]), (4, [0, 1, 6, 7, 41]), (5, [8]), (6, [0, 1, 6, 7, 43]), (7, [8]), (8, []), (9, [8])]),
 (13, [(0, [0, 3]), (1, [0, 3, 14]), (2, [4, 5]), (3, [0, 3, 6]), (4, [0, 3, 6, 7]), (5, [0, 3, 6, 7, 23, 24, 25]), (6, [0, 3, 6, 7, 23, 24, 25, 26]), (7, [0, 3, 6, 7, 9, 23, 24, 25]), (8, [0, 3, 6, 7, 23, 24, 25]), (9, [0, 3, 6, 7, 23, 24, 25]), (10, [0, 6, 7, 39, 40, 41]), (11, [0, 6, 7, 39, 40, 41, 42]), (12, [0, 6, 7, 11, 39, 40, 41]), (13, [0, 6, 7, 39, 40, 41]), (14, [0, 6, 7, 39, 40, 41]), (15, [4, 5])]),
 (14, [(0, [0, 1]), (1, [0, 1, 10]), (2, [4]), (3, [0, 1, 5]), (4, [0, 1, 5, 14]), (5, [0, 1, 5]), (6, [0, 1, 5, 25]), (7, [4]), (8, [4])]),
 (15, [(0, [0, 3]), (1, [0, 3, 7]), (2, [4]), (3, [4])]),
 (17, [(0, []), (1, [1]), (2, [1, 2, 3]), (3, [1, 2, 3, 23]), (4, [0]), (5, [1, 2, 3, 4]), (6, [0])]),
 (18, [(0, [0]), (1, [0, 4]), (2, [0, 4, 8, 9, 10]), (3, [0, 4, 8, 9, 10, 11]), (4, [0, 4, 6, 8, 9, 10]), (5, [0, 4, 6, 8, 9, 10, 33]), (6, [2, 3]), (7, [0, 4, 6, 8, 9, 10, 36]), (8, [0, 4, 6, 8, 9, 10]), (9, [0, 4, 6, 8, 9, 10]), (10, [0, 4, 8, 9, 10, 67]), (11, [2, 3]), (12, [0, 4, 8, 9, 10]), (13, [0, 4, 73]), (14, [2, 3]), (15, [4, 76]), (16, [2, 3]), (17, [2, 3])]),
 (19, [(0, [0, 2]), (1, [0, 2, 7]), (2, [2, 3]), (3, [0, 2, 11]), (4, [2, 3]), (5, [0, 2, 4]), (6, [2, 4]), (7, [2, 3])]),
 (20, [(0, [0, 1]), (1, [0, 1, 10]), (2, [4]), (3, [0, 1, 5]), (4, [0, 1, 5, 14]), (5, [0, 1, 5]), (6, [0, 1, 5, 25]), (7, [4]), (8, [4])]),
 (21, [(0, [0, 4, 5]), (1, [0, 4, 5, 7, 8, 9]), (2, [0, 4, 7, 8, 9, 10]), (3, [0, 4, 7, 8, 9, 10, 11]), (4, [0, 4, 7, 8, 9, 10, 11, 43]), (5, [0, 4, 7, 8, 9, 10, 11]), (6, [0, 4, 7, 8, 9, 10, 11]), (7, [0, 4, 8, 9, 10, 12]), (8, [0, 4, 8, 9, 10, 12, 53]), (9, [0, 4, 8, 9, 10, 12]), (10, [0, 4, 8, 9, 10, 12]), (11, [0, 4, 9, 10, 13]), (12, [0, 4, 9, 10, 13, 63]), (13, [0, 4, 9, 10, 13]), (14, [0, 4, 9, 10, 13]), (15, [6])]),
 (22, [(0, [0]), (1, [0])]),
 (23, [(0, [0, 4, 5, 6]), (1, [0, 4, 5, 6, 25]), (2, [0, 4, 5, 6, 25, 26]), (3, [0, 5, 6, 8, 9]), (4, [6, 7]), (5, [0, 4, 5, 6, 25, 46]), (6, [0, 5, 6, 10, 11]), (7, [6, 7]), (8, [0, 4, 5, 6, 25, 66]), (9, [0, 5, 6, 12, 13]), (10, [6, 7]), (11, [0, 4, 5, 6, 25, 90]), (12, [0, 5, 6, 14, 15]), (13, [6, 7]), (14, [0, 4, 5, 6, 106]), (15, [4, 5, 6, 16, 17]), (16, [6, 16, 17, 18, 19, 20]), (17, [6, 16, 17, 18, 21]), (18, [6, 16, 17, 18, 21, 22]), (19, [6, 16, 17, 18, 21, 22, 134]), (20, [6, 16, 17, 18, 21, 22]), (21, [6, 16, 17, 18, 21, 22]), (22, [6, 17, 18, 21, 23]), (23, [6, 17, 18, 21, 23, 144]), (24, [6, 17, 18, 21, 23]), (25, [6, 17, 18, 21, 23]), (26, [6, 7]), (27, [6, 7])]),
 (25, [(0, [0, 1]), (1, [0, 1, 9]), (2, [4]), (3, [0, 1, 6]), (4, [0, 1, 20]), (5, [4]), (6, []), (7, [4])]),
 (26, [(0, [0, 4, 5]), (1, [6])]),
 (27, [(0, [2, 3, 4]), (1, [2, 3, 4, 8]), (2, [4]), (3, [4])]),
 (28, [(0, [0]), (1, [2])]),
 (29, [(0, [0]), (1, [2])]),
 (31, [(0, [2, 3]), (1, [2, 3, 9]), (2, [4]), (3, [2, 3, 15]), (4, [4]), (5, [21]), (6, [4]), (7, [4])]),
 (32, [(0, [1]), (1, [2])]),
 (33, [(0, [0, 1]), (1, [0, 1, 5]), (2, [0, 5, 9, 10, 11]), (3, [0, 5, 9, 10, 11, 12]), (4, [0, 5, 7, 9, 10, 11]), (5, [0, 5, 7, 8, 9, 10, 11]), (6, [0, 5, 9, 10, 11]), (7, [0, 5, 9, 10, 11]), (8, [4])]),
 (41, [(0, [0, 1]), (1, [0, 1, 10]), (2, [4]), (3, [0, 1, 12, 13]), (4, [0, 1, 12, 13, 14]), (5, [0, 1, 5, 12, 13]), (6, [0, 1, 12, 13, 24]), (7, [4]), (8, [0, 1, 12, 13]), (9, [4])]),
 (42, [(0, [0]), (1, [0, 3]), (2, [0, 3, 8]), (3, [0, 3]), (4, [0, 3, 4]), (5, [0, 3, 4, 47]), (6, [2]), (7, [0, 3, 59]), (8, [2]), (9, [2])]),
 (43, [(0, [2, 3]), (1, [2, 3, 5]), (2, [2, 3, 5, 6]), (3, [2, 3, 5, 6, 12]), (4, [2, 3, 5, 6]), (5, [2, 3, 5, 6, 31]), (6, [2, 3, 5, 6]), (7, [2, 3, 5, 7]), (8, [2, 3, 5, 7, 45]), (9, [2, 3, 5, 7]), (10, [2, 3, 5, 7, 64]), (11, [2, 3, 5, 7]), (12, [4])]),
 (44, [(0, [2, 3]), (1, [2, 3, 5]), (2, [2, 3, 5, 6]), (3, [2, 3, 5, 6, 11]), (4, [2, 3, 5, 6]), (5, [2, 3, 5, 6, 30]), (6, [2, 3, 5, 6]), (7, [4])]),
 (45, [(0, [3, 4, 5, 6]), (1, [3, 4, 5, 6, 16]), (2, [6, 7]), (3, [3, 4, 5, 6, 22]), (4, [6, 7]), (5, [3, 4, 5, 6, 27]), (6, [6, 7]), (7, [6, 7])]),
 (46, [(0, [3, 4, 5, 6]), (1, [3, 4, 5, 6, 16]), (2, [6, 7]), (3, [3, 4, 5, 6, 23]), (4, [6, 7]), (5, [6, 7])]),
 (47, [(0, [1, 4, 6, 7, 8]), (1, [1, 4, 6, 7, 8, 11]), (2, [1, 4, 6, 7, 8, 41]), (3, [8, 9]), (4, [1, 4, 6, 7, 8, 46]), (5, [8, 9]), (6, [8, 9])]),
 (48, [(0, [1, 2, 4]), (1, [1, 2, 4, 10]), (2, [4, 5]), (3, [2, 4, 6, 7]), (4, [2, 4, 6, 19]), (5, [4, 5]), (6, [4, 5])]),
 (49, [(0, [2, 3, 4]), (1, [2, 3, 4, 13]), (2, [4, 5, 6]), (3, [2, 3, 4, 7]), (4, [2, 3, 4, 7, 8]), (5, [2, 3, 4, 7, 8, 9]), (6, [2, 3, 4, 7, 8, 9, 20]), (7, [2, 3, 4, 7, 8, 9]), (8, [2, 3, 4, 7, 8, 9, 10]), (9, [2, 3, 4, 7, 8, 9, 10, 37]), (10, [2, 3, 4, 7, 8, 9, 10]), (11, [2, 3, 4, 7, 8, 9, 10, 58]), (12, [2, 3, 4, 7, 8, 9]), (13, [4, 5, 6])]),
 (54, [(0, [1]), (1, [2])]),
 (55, [(0, [2, 3]), (1, [4])]),
 (56, [(0, [2, 3]), (1, [2, 3, 11]), (2, [4]), (3, [2, 3, 17]), (4, [4]), (5, [4])]),
 (57, [(0, [2, 3]), (1, [4])]),
 (58, [(0, [2, 3]), (1, [2, 3, 5]), (2, [2, 3, 5, 10]), (3, [2, 3, 5]), (4, [2, 3, 5, 19]), (5, [4]), (6, [4])]),
 (59, [(0, [2, 3, 4]), (1, [2, 3, 4, 7]), (2, [4]), (3, [4])]),
 (60, [(0, [2, 3, 4]), (1, [2, 3, 4, 5]), (2, [2, 3, 4, 5, 6]), (3, [2, 3, 4, 5, 6, 7]), (4, [2, 3, 4, 5, 6, 7, 13]), (5, [2, 3, 4, 5, 6, 7]), (6, [2, 3, 4, 5, 6, 7, 26]), (7, [2, 3, 4, 5, 7]), (8, [2, 3, 4, 5, 6, 7]), (9, [2, 3, 4, 5, 6, 7]), (10, [3, 4, 5, 44]), (11, [4, 5]), (12, [4])]),
 (61, [(0, [2, 3, 4]), (1, [2, 3, 4, 5]), (2, [2, 3, 4, 5, 6]), (3, [2, 3, 4, 5, 6, 12]), (4, [2, 3, 4, 5, 6]), (5, [2, 3, 4, 5, 6, 21]), (6, [2, 3, 4, 5, 6]), (7, [4])]),
 (62, [(0, [1, 2, 4]), (1, [1, 2, 4, 6]), (2, [1, 2, 4, 6, 11]), (3, [1, 2, 4, 6]), (4, [1, 2, 4, 6, 25]), (5, [4, 5]), (6, [4, 5])])]
def loopT : List (Nat × List (Nat × (List Nat × Bool))) := [(3, [(5, ([0, 3, 5, 6], false)), (24, ([3, 5, 12, 13], false)), (30, ([3, 14, 15], false))]),
 (4, [(8, ([3, 4, 6, 7, 8], false))]),
 (5, [(8, ([0, 3, 4, 5, 6, 7], false))]),
 (9, [(2, ([0, 3, 5], false))]),
 (13, [(6, ([0, 3, 6, 7, 23, 24, 25], false)), (11, ([0, 6, 7, 39, 40, 41], false))]),
 (14, [(4, ([0, 1, 5], false))]),
 (18, [(3, ([0, 4, 8, 9, 10], false))]),
 (20, [(4, ([0, 1, 5], false))]),
 (21, [(4, ([0, 4, 7, 8, 9, 10, 11], false)), (8, ([0, 4, 8, 9, 10, 12], false)), (12, ([0, 4, 9, 10, 13], false))]),
 (23, [(19, ([6, 16, 17, 18, 21, 22], false)), (23, ([6, 17, 18, 21, 23], false))]),
 (33, [(3, ([0, 5, 9, 10, 11], false))]),
 (41, [(4, ([0, 1, 12, 13], false))]),
 (42, [(2, ([0, 3], false))]),
 (43, [(3, ([2, 3, 5, 6], false)), (8, ([2, 3, 5, 7], false))]),
 (44, [(3, ([2, 3, 5, 6], false))]),
 (49, [(6, ([2, 3, 4, 7, 8, 9], false))]),
 (58, [(2, ([2, 3, 5], false))]),
 (60, [(4, ([2, 3, 4, 5, 6, 7], false))]),
 (61, [(3, ([2, 3, 4, 5, 6], false))]),
 (62, [(2, ([1, 2, 4, 6], false))])]
def lateT : List (Nat × List (Nat × List Nat)) := [(5, [(10, [10]), (21, [12])])]
def maskT : List (Nat × List (Nat × List (Nat × (Bool × List Nat)))) := [(3, [(11, [(6, (false, [7])), (8, (true, [7])), (15, (false, [7])), (17, (true, [7]))]), (15, [(6, (false, [7])), (8, (true, [7])), (14, (false, [7])), (16, (true, [7]))]), (21, [(7, (false, [3])), (8, (true, [])), (10, (true, [3])), (11, (false, [3]))])]),
 (21, [(1, [(1, (false, [5])), (3, (true, [5])), (4, (false, [5])), (6, (true, [5]))]), (15, [(3, (false, [4])), (5, (true, [4]))])]),
 (23, [(4, [(0, (true, [8])), (6, (false, [8]))]), (7, [(0, (true, [10])), (6, (false, [10]))]), (10, [(0, (true, [12])), (8, (false, [12]))]), (13, [(0, (true, [14])), (4, (false, [14]))])])]
def tab {α : Type} (T : List (Nat × List (Nat × α))) (f r : Nat) : Option α := (T.lookup f).bind (List.lookup r)
def specT (f : Nat) : Option (List Y → Go.Lg.Heap → Option (List Y × Go.Lg.Heap)) := if f = 10 then some spLinks else if f = 16 then some spAll else if f = 24 then some spCopy else if f = 30 then some sort30 else if f = 34 then some spRefs else if f = 38 then some sort38 else if f = 52 then some sort52 else none
abbrev an : Ann := { pureSl := fun _ => true, dryB := fun t => t == 32 || t == 75 || t == 35, bagT := fun t => t == 58 || t == 59, pureFn := fun f => ([9, 14, 19, 20, 22, 27, 31, 32, 41, 42, 43, 44, 45, 46, 47, 48, 49, 54, 55, 56, 57, 58, 59, 60, 61, 62] : List Nat).contains f, live := tab liveT, loop := tab loopT, mask := fun f r i => (tab maskT f r).bind (List.lookup i), late := fun f r => (tab lateT f r).getD [], may := fun f => ([3, 4, 5, 7, 8, 9, 11, 12, 13, 14, 15, 17, 18, 19, 20, 21, 22, 23, 25, 26, 27, 28, 29, 31, 32, 33, 41, 42, 43, 44, 45, 46, 47, 48, 49, 54, 55, 56, 57, 58, 59, 60, 61, 62] : List Nat).contains f, spec := specT }
theorem spec_ok : ∀ f sp, an.spec f = some sp → SpOk pg f sp ∧ SpHid sp := by
 intro f sp h
 change specT f = some sp at h
 unfold specT at h
 split at h
 ·rename_i hf; subst hf; cases h; exact ⟨links_ok, links_hid⟩
 split at h
 ·rename_i hf; subst hf; cases h; exact ⟨all_ok, all_hid⟩
 split at h
 ·rename_i hf; subst hf; cases h; exact ⟨copy_ok, copy_hid⟩
 split at h
 ·rename_i hf; subst hf; cases h; exact ⟨sort30_ok, sort30_hid⟩
 split at h
 ·rename_i hf; subst hf; cases h; exact ⟨refs_ok, refs_hid⟩
 split at h
 ·rename_i hf; subst hf; cases h; exact ⟨sort38_ok, sort38_hid⟩
 split at h
 ·rename_i hf; subst hf; cases h; exact ⟨sort52_ok, sort52_hid⟩
 ·cases h
theorem aok : AnnOk pg an := annOk_of (by kernel_rfl) spec_ok
theorem ob_nil {P : Program} {A : Ann} {mk : Nat → Msk} {ops : Array Oper} : ∀ {is : List Nat} {e : Env} {H : Go.Lg.Heap} {r : Env × Go.Lg.Heap}, runO P A mk ops [] is e H = some r → obO P A mk ops [] is e H := by
 intro is
 induction is with
 | nil => intro e H r _; trivial
 | cons i is ih =>
  intro e H r h
  cases hop : ops[i]? with
  | none => simp only [runO, obO, hop] at h ⊢; exact ih h
  | some o =>
   simp only [runO, obO, hop] at h ⊢
   cases hw : wantX ops (get e) o with
   | none => simp only [hw] at h; cases h
   | some b =>
    simp only [hw, kS] at h ⊢
    cases b with
    | false => simp only [Bool.false_eq_true, if_false] at h; exact ih h
    | true =>
     simp only [if_true, ansOf, Option.none_or] at h ⊢
     cases hx : opD P A (runX P A 0) (mk i) e H o with
     | none => rw [hx] at h; cases h
     | some v => rw [hx] at h; exact ih h
theorem rS0 {P : Program} {A : Ann} {f : FuncId} {e : Env} {H : Go.Lg.Heap} {Q : Ex → Env → Go.Lg.Heap → Prop} {id : Nat} {ops : Array Oper} {d : Bool} {b : Code} (e1 : Env) (hr : (runO P A (mkM (A.mask f id) (A.late f id) H.length) ops [] (List.range ops.size) e (holesX (A.late f id) H)).map (fun x => (liveX A f id x.1, x.2)) = some (e1, H)) (h : Wp P A f b e1 H Q) : Wp P A f (.seq (.region id ops d) b) e H Q := rSq [] e1 H (ob_nil (kM.1 hr).choose_spec.1) hr h
abbrev HH := Go.Lg.Heap
abbrev sto (H : HH) (n : Nat) (o : O) : HH := List.set H n o
abbrev yp (k : Nat) : X := .y (.one (.ptr k 0))
abbrev rft {α : Type} (k : Nat) (l : List α) : C := rowC k 0 l.length 0 l.length true
abbrev rff {α : Type} (k : Nat) (l : List α) : C := rowC k 0 l.length 0 l.length false
def Oz (ans : List (Nat × X × Go.Lg.Heap)) (T : Prop) : Prop := T
theorem zN : Oz [] True := trivial
theorem zA (i : Nat) {vals : List X} {H : Go.Lg.Heap} {op : Op} {ty : TypeId} {v : X} {H' : Go.Lg.Heap} {ans : List (Nat × X × Go.Lg.Heap)} {T : Prop} (h : Ob pg an vals H op ty v H') (r : Oz ans T) : Oz ((i, v, H') :: ans) (Ob pg an vals H op ty v H' ∧ T) := ⟨h, r⟩
theorem zL (i : Nat) {vals : List X} {H : Go.Lg.Heap} {op : Op} {ty : TypeId} {v : X} {H' : Go.Lg.Heap} (h : Ob pg an vals H op ty v H') : Oz [(i, v, H')] (Ob pg an vals H op ty v H' ∧ True) := ⟨h, trivial⟩
section
variable {f : FuncId} {e : Env} {H : Go.Lg.Heap} {Q : Ex → Env → Go.Lg.Heap → Prop} {id : Nat} {ops : Array Oper} {d : Bool} {b : Code} {ans : List (Nat × X × Go.Lg.Heap)} {T : Prop}
theorem rSz (e1 : Env) (H1 : Go.Lg.Heap) (q : Oz ans T) (h : Wp pg an f b e1 H1 Q) (hc : T = obO pg an (mkM (an.mask f id) (an.late f id) H.length) ops ans (List.range ops.size) e (holesX (an.late f id) H) := by kernel_rfl) (hr : (runO pg an (mkM (an.mask f id) (an.late f id) H.length) ops ans (List.range ops.size) e (holesX (an.late f id) H)).map (fun x => (liveX an f id x.1, x.2)) = some (e1, H1) := by kernel_rfl) : Wp pg an f (.seq (.region id ops d) b) e H Q := rSq ans e1 H1 (cast hc q) hr h
theorem rKz (e1 : Env) (H1 : Go.Lg.Heap) (q : Oz ans T) (h : Wp pg an f .skip e1 H1 Q) (hc : T = obO pg an (mkM (an.mask f id) (an.late f id) H.length) ops ans (List.range ops.size) e (holesX (an.late f id) H) := by kernel_rfl) (hr : (runO pg an (mkM (an.mask f id) (an.late f id) H.length) ops ans (List.range ops.size) e (holesX (an.late f id) H)).map (fun x => (liveX an f id x.1, x.2)) = some (e1, H1) := by kernel_rfl) : Wp pg an f (.region id ops d) e H Q := rKq ans e1 H1 (cast hc q) hr h
theorem rRz (e1 : Env) (H1 : Go.Lg.Heap) (q : Oz ans T) (h : Q .normal e1 H1) (hc : T = obO pg an (mkM (an.mask f id) (an.late f id) H.length) ops ans (List.range ops.size) e (holesX (an.late f id) H) := by kernel_rfl) (hr : (runO pg an (mkM (an.mask f id) (an.late f id) H.length) ops ans (List.range ops.size) e (holesX (an.late f id) H)).map (fun x => (liveX an f id x.1, x.2)) = some (e1, H1) := by kernel_rfl) : Wp pg an f (.region id ops d) e H Q := wR ans e1 H1 (cast hc q) hr h
theorem rs0 (e1 : Env) (h : Wp pg an f b e1 H Q) (hr : (runO pg an (mkM (an.mask f id) (an.late f id) H.length) ops [] (List.range ops.size) e (holesX (an.late f id) H)).map (fun x => (liveX an f id x.1, x.2)) = some (e1, H) := by kernel_rfl) : Wp pg an f (.seq (.region id ops d) b) e H Q := rS0 e1 hr h
theorem rOf {fn : Func} {c : Code} {args : List Y} {R : List Y → Go.Lg.Heap → Prop} (hf : pg.funcs[f]? = some fn) (hb : fn.body = some c) (e0 : Env) (h : Wp pg an f c e0 H fun x e H => (x = .normal ∨ x = .ret) ∧ ∃ rs, fn.results.toList.mapM (resX pg e H) = some rs ∧ R rs H) (hm : (an.may f && (decide (args.length ≤ fn.ntmps) && !an.gc f)) = true := by kernel_rfl) (he : (args.zipIdx.map fun p => (p.2, X.y p.1)) = e0 := by kernel_rfl) : ∃ rs H', Runs pg an f args H rs H' ∧ R rs H' := Runs.of hf hb hm e0 he h
end
section
variable {H : Go.Lg.Heap}
theorem qL {id : Nat} {cs : List C} (t : TypeId) (off : Nat) (v : Y) (hH : H[id]? = some (.obj cs)) (hk : ldC pg t off cs = some v := by kernel_rfl) : Ob pg an [.y (.one (.ptr id off))] H (.load t (.tmp 0)) 0 (.y v) H := oL hH hk
theorem qA {id : Nat} {cs : List C} (t : TypeId) (hH : H[id]? = some (.obj cs)) (hk : ldC pg t 0 cs = some (.agg cs) := by kernel_rfl) : Ob pg an [.y (.one (.ptr id 0))] H (.load t (.tmp 0)) 0 (.y (.agg cs)) H := oL hH hk
theorem qS {id : Nat} {cs : List C} (t : TypeId) (off : Nat) (v : Y) (hH : H[id]? = some (.obj cs)) (hk : stC pg t off cs v = true := by kernel_rfl) : Ob pg an [.y (.one (.ptr id off)), .y v] H (.store t (.tmp 0) (.tmp 1)) 0 .undef (H.set id (.obj (splice off v.cells cs))) := oS hH hk
theorem qC1 {g : FuncId} {x : Y} {res : List Y} {H' : Go.Lg.Heap} (hr : Runs pg an g [x] H res H') (hp : an.pureFn g = false := by kernel_rfl) : Ob pg an [.y x] H (.call { callee := .value (.func g), args := #[.tmp 0], argTypes := #[] }) 0 (pack res) H' := oC1 hr hp
theorem qC2 {g : FuncId} {x y : Y} {res : List Y} {H' : Go.Lg.Heap} (hr : Runs pg an g [x, y] H res H') (hp : an.pureFn g = false := by kernel_rfl) : Ob pg an [.y x, .y y] H (.call { callee := .value (.func g), args := #[.tmp 0, .tmp 1], argTypes := #[] }) 0 (pack res) H' := oC2 hr hp
theorem qC3 {g : FuncId} {x y z : Y} {res : List Y} {H' : Go.Lg.Heap} (hr : Runs pg an g [x, y, z] H res H') (hp : an.pureFn g = false := by kernel_rfl) : Ob pg an [.y x, .y y, .y z] H (.call { callee := .value (.func g), args := #[.tmp 0, .tmp 1, .tmp 2], argTypes := #[] }) 0 (pack res) H' := oC3 hr hp
theorem qP1 (H : Go.Lg.Heap) {g : FuncId} {x : Y} {res : List Y} (hc : PureC pg an g [x] res) (hs : [x].mapM (snapY H) = some [x] := by kernel_rfl) (hp : an.pureFn g = true := by kernel_rfl) : Ob pg an [.y x] H (.call { callee := .value (.func g), args := #[.tmp 0], argTypes := #[] }) 0 (pack res) H := oP1 hc hs hp
theorem qP2 (H : Go.Lg.Heap) {g : FuncId} {x y : Y} {res : List Y} (hc : PureC pg an g [x, y] res) (hs : [x, y].mapM (snapY H) = some [x, y] := by kernel_rfl) (hp : an.pureFn g = true := by kernel_rfl) : Ob pg an [.y x, .y y] H (.call { callee := .value (.func g), args := #[.tmp 0, .tmp 1], argTypes := #[] }) 0 (pack res) H := oP2 hc hs hp
theorem qP3 (H : Go.Lg.Heap) {g : FuncId} {x y z : Y} {res : List Y} (hc : PureC pg an g [x, y, z] res) (hs : [x, y, z].mapM (snapY H) = some [x, y, z] := by kernel_rfl) (hp : an.pureFn g = true := by kernel_rfl) : Ob pg an [.y x, .y y, .y z] H (.call { callee := .value (.func g), args := #[.tmp 0, .tmp 1, .tmp 2], argTypes := #[] }) 0 (pack res) H := oP3 hc hs hp
theorem qB {n : Nat} (t : TypeId) (cs : List C) (hl : n = H.length) (hn : (Y.agg cs).cells.all C.live = true := by kernel_rfl) (ht : szT pg t = some (Y.agg cs).cells.length := by kernel_rfl) : Ob pg an [.y (.agg cs)] H (.box t (.tmp 0)) 0 (.y (.one (.ptr n 0))) (H ++ [.obj cs]) := ob_box hl hn ht rfl
theorem qO {n : Nat} (t : TypeId) (cs : List C) (hl : n = H.length) (hz : zeroC pg t = some cs := by kernel_rfl) : Ob pg an [] H (.alloc t) 0 (.y (.one (.ptr n 0))) (H ++ [.obj cs]) := ob_alloc hl hz
theorem lX (H : Go.Lg.Heap) : ∃ n, n = List.length H := ⟨_, rfl⟩
theorem rGz {f : FuncId} {e : Env} {Q : Ex → Env → Go.Lg.Heap → Prop} {id : Nat} {ops : Array Oper} {d : Bool} {b : Code} {ans : List (Nat × X × Go.Lg.Heap)} {T : Prop} (e1 : Env) {cs : List HP} {H1 : Go.Lg.Heap} (hs : On cs H1) (q : Oz ans T) (h : ∀ H2, On cs H2 → Wp pg an f b e1 H2 Q) (hc : T = obO pg an (mkM (an.mask f id) (an.late f id) H.length) ops ans (List.range ops.size) e (holesX (an.late f id) H) := by kernel_rfl) (hr : (runO pg an (mkM (an.mask f id) (an.late f id) H.length) ops ans (List.range ops.size) e (holesX (an.late f id) H)).map (fun x => (liveX an f id x.1, x.2)) = some (e1, H1) := by kernel_rfl) : Wp pg an f (.seq (.region id ops d) b) e H Q := rSz e1 H1 q (wG hs h) hc hr
theorem rHz {f : FuncId} {e : Env} {Q : Ex → Env → Go.Lg.Heap → Prop} {id : Nat} {ops : Array Oper} {d : Bool} {ans : List (Nat × X × Go.Lg.Heap)} {T : Prop} (e1 : Env) {cs : List HP} {H1 : Go.Lg.Heap} (hs : On cs H1) (q : Oz ans T) (h : ∀ H2, On cs H2 → Wp pg an f .skip e1 H2 Q) (hc : T = obO pg an (mkM (an.mask f id) (an.late f id) H.length) ops ans (List.range ops.size) e (holesX (an.late f id) H) := by kernel_rfl) (hr : (runO pg an (mkM (an.mask f id) (an.late f id) H.length) ops ans (List.range ops.size) e (holesX (an.late f id) H)).map (fun x => (liveX an f id x.1, x.2)) = some (e1, H1) := by kernel_rfl) : Wp pg an f (.region id ops d) e H Q := rKz e1 H1 q (wG hs h) hc hr
theorem rOF {f : FuncId} {fn : Func} {c : Code} {args : List Y} {R : List Y → Go.Lg.Heap → Prop} (hf : pg.funcs[f]? = some fn) (hb : fn.body = some c) (h : Wp pg an f c (args.zipIdx.map fun p => (p.2, X.y p.1)) H fun x e H => (x = .normal ∨ x = .ret) ∧ ∃ rs, fn.results.toList.mapM (resX pg e H) = some rs ∧ R rs H) (hm : (an.may f && (decide (args.length ≤ fn.ntmps) && !an.gc f)) = true := by kernel_rfl) : ∃ rs H', Runs pg an f args H rs H' ∧ R rs H' := Runs.of hf hb hm _ rfl h
theorem pE1 {g : FuncId} {xs : List Y} {α : Type} {res : α → List Y} (h : ∃ rs H', Runs pg an g xs [] rs H' ∧ ∃ a, rs.mapM (backY H') = some (res a)) : ∃ a, PureC pg an g xs (res a) := by obtain ⟨rs, H', h1, a, h2⟩ := h; exact ⟨a, rs, H', h1, h2⟩
theorem pE2 {g : FuncId} {xs : List Y} {α β : Type} {res : α → β → List Y} (h : ∃ rs H', Runs pg an g xs [] rs H' ∧ ∃ a b, rs.mapM (backY H') = some (res a b)) : ∃ a b, PureC pg an g xs (res a b) := by obtain ⟨rs, H', h1, a, b, h2⟩ := h; exact ⟨a, b, rs, H', h1, h2⟩
theorem pE4 {g : FuncId} {xs : List Y} {α β γ δ : Type} {res : α → β → γ → δ → List Y} (h : ∃ rs H', Runs pg an g xs [] rs H' ∧ ∃ a b c d, rs.mapM (backY H') = some (res a b c d)) : ∃ a b c d, PureC pg an g xs (res a b c d) := by obtain ⟨rs, H', h1, a, b, c, d, h2⟩ := h; exact ⟨a, b, c, d, rs, H', h1, h2⟩
theorem pE6 {g : FuncId} {xs : List Y} {α β γ δ ε ζ : Type} {res : α → β → γ → δ → ε → ζ → List Y} (h : ∃ rs H', Runs pg an g xs [] rs H' ∧ ∃ a b c d e f, rs.mapM (backY H') = some (res a b c d e f)) : ∃ a b c d e f, PureC pg an g xs (res a b c d e f) := by obtain ⟨rs, H', h1, a, b, c, d, e, f, h2⟩ := h; exact ⟨a, b, c, d, e, f, rs, H', h1, h2⟩
end
section
variable {t u ty : TypeId}
theorem qlssT (H : Go.Lg.Heap) (a b : Int) (h : a < b := by omega) : Ob pg an [xi a, xi b] H (.binOp .lss 3 (.tmp 0) (.tmp 1) 3) 0 (xb true) H := lssT h
theorem qlssF (H : Go.Lg.Heap) (a b : Int) (h : ¬ a < b := by omega) : Ob pg an [xi a, xi b] H (.binOp .lss 3 (.tmp 0) (.tmp 1) 3) 0 (xb false) H := lssF h
theorem qgtrT (H : Go.Lg.Heap) (a b : Int) (h : a > b := by omega) : Ob pg an [xi a, xi b] H (.binOp .gtr 3 (.tmp 0) (.tmp 1) 3) 0 (xb true) H := gtrT h
theorem qgtrF (H : Go.Lg.Heap) (a b : Int) (h : ¬ a > b := by omega) : Ob pg an [xi a, xi b] H (.binOp .gtr 3 (.tmp 0) (.tmp 1) 3) 0 (xb false) H := gtrF h
theorem qleqT (H : Go.Lg.Heap) (a b : Int) (h : a ≤ b := by omega) : Ob pg an [xi a, xi b] H (.binOp .leq 3 (.tmp 0) (.tmp 1) 3) 0 (xb true) H := leqT h
theorem qleqF (H : Go.Lg.Heap) (a b : Int) (h : ¬ a ≤ b := by omega) : Ob pg an [xi a, xi b] H (.binOp .leq 3 (.tmp 0) (.tmp 1) 3) 0 (xb false) H := leqF h
theorem qgeqT (H : Go.Lg.Heap) (a b : Int) (h : a ≥ b := by omega) : Ob pg an [xi a, xi b] H (.binOp .geq 3 (.tmp 0) (.tmp 1) 3) 0 (xb true) H := geqT h
theorem qgeqF (H : Go.Lg.Heap) (a b : Int) (h : ¬ a ≥ b := by omega) : Ob pg an [xi a, xi b] H (.binOp .geq 3 (.tmp 0) (.tmp 1) 3) 0 (xb false) H := geqF h
theorem qoAdd (H : Go.Lg.Heap) (a b c : Int) (h : -9223372036854775808 ≤ a + b ∧ a + b ≤ 9223372036854775807 ∧ a + b = c := by omega) : Ob pg an [xi a, xi b] H (.binOp .add 3 (.tmp 0) (.tmp 1) 3) 0 (xi c) H := oAdd h
theorem qoSub (H : Go.Lg.Heap) (a b c : Int) (h : -9223372036854775808 ≤ a - b ∧ a - b ≤ 9223372036854775807 ∧ a - b = c := by omega) : Ob pg an [xi a, xi b] H (.binOp .sub 3 (.tmp 0) (.tmp 1) 3) 0 (xi c) H := oSub h
theorem rC {e : Env} {H : Go.Lg.Heap} {id : Nat} {cs : List C} {a : Nat} {t : TypeId} {v : Y} {R1 : List ResultVar} {ys : List Y} (hH : H[id]? = some (.obj cs)) (hg : (get e a).c? = some (.ptr id 0) := by kernel_rfl) (hv : ldC pg t 0 cs = some v := by kernel_rfl) (hr : R1.mapM (resX pg e H) = some ys := by kernel_rfl) : (ResultVar.cell a t :: R1).mapM (resX pg e H) = some (v :: ys) := by
 have h : resX pg e H (.cell a t) = some v := by
  unfold ldC at hv
  obtain ⟨n, hn, hv⟩ := kB.1 hv
  split at hv
  ·rename_i hh
   simp only [kA, Nat.ble_eq] at hh
   simp only [resX, hg, kS, hn]
   rw [if_pos (by omega)]
   unfold ldCells
   simp only [hH]
   rw [if_pos hh.2]
   exact hv
  ·cases hv
 rw [List.mapM_cons, h]
 simp only [Option.bind_eq_bind, kS, hr]
 rfl
theorem sH {cs : List HP} {H : Go.Lg.Heap} {A : HP} (h : On cs H) (is rest : List Nat) (hA : ∀ h, SL (is.map fun i => cs.getD i emp) h → A h) (hp : (rest ++ is).isPerm (List.range cs.length) = true := by kernel_rfl) : On (rest.map (fun i => cs.getD i emp) ++ [A]) H := On.shut is rest hp hA h
theorem rT {e : Env} {H : Go.Lg.Heap} {a : Nat} {v : Y} {R1 : List ResultVar} {ys : List Y} (hr : R1.mapM (resX pg e H) = some ys) (h : resX pg e H (.tmp a) = some v := by kernel_rfl) : (ResultVar.tmp a :: R1).mapM (resX pg e H) = some (v :: ys) := by
 rw [List.mapM_cons, h]
 simp only [Option.bind_eq_bind, kS, hr]
 rfl
end
abbrev ea_ := @List.nil_append
abbrev eb_ := @List.append_nil
abbrev ec_ := @List.drop_zero
abbrev ed_ := @Nat.zero_add
abbrev ee_ := @List.getElem?_take
abbrev ef_ := @List.getElem?_drop
abbrev eg_ := @List.getElem?_append
abbrev eh_ := @List.length_take
abbrev ei_ := @List.length_drop
abbrev ej_ := @List.length_append
abbrev ek_ := @List.length_nil
abbrev el_ := @List.getElem?_nil
abbrev em_ := @Int.toNat_natCast
abbrev en_ := @List.length_cons
abbrev eo_ := @List.length_map
abbrev ep_ := @List.getElem?_eq_none
theorem wTk {P : Program} {A : Ann} {f : FuncId} {e : Env} {H : Go.Lg.Heap} {Q : Ex → Env → Go.Lg.Heap → Prop} {c : Operand} {a : Code} (h : Q .normal e H) (hc : ev e c = .y (.one (.sc (.bool true))) := by kernel_rfl) : Wp P A f (.cond c .skip a) e H Q := wT hc (wK h)
theorem wTa {P : Program} {A : Ann} {f : FuncId} {e : Env} {H : Go.Lg.Heap} {Q : Ex → Env → Go.Lg.Heap → Prop} {c : Operand} {a b : Code} (h : Wp P A f a e H Q) (hc : ev e c = .y (.one (.sc (.bool true))) := by kernel_rfl) : Wp P A f (.cond c a b) e H Q := wT hc h
theorem wFk {P : Program} {A : Ann} {f : FuncId} {e : Env} {H : Go.Lg.Heap} {Q : Ex → Env → Go.Lg.Heap → Prop} {c : Operand} {a : Code} (h : Q .normal e H) (hc : ev e c = .y (.one (.sc (.bool false))) := by kernel_rfl) : Wp P A f (.cond c a .skip) e H Q := wF hc (wK h)
theorem wFa {P : Program} {A : Ann} {f : FuncId} {e : Env} {H : Go.Lg.Heap} {Q : Ex → Env → Go.Lg.Heap → Prop} {c : Operand} {a b : Code} (h : Wp P A f b e H Q) (hc : ev e c = .y (.one (.sc (.bool false))) := by kernel_rfl) : Wp P A f (.cond c a b) e H Q := wF hc h
theorem JZ {a : Prop} (x : a) : a ∧ True := ⟨x, trivial⟩
theorem Jai {a b : Prop} (x : a) (y : b) : a ∧ b := ⟨x, y⟩
abbrev Ja := @ob_raw pg an
abbrev Jb := @ob_index pg an
abbrev Jc := @oP1 pg an
abbrev Jd := @oP2 pg an
abbrev Je := @oL pg an
abbrev Jf := @or_len pg an
abbrev Jg := @ob_neq_agg pg an
abbrev Jh := @ob_eq_agg pg an
abbrev Ji := @ob_pure pg an
abbrev Jj := @or_index pg an
abbrev Jk := @ob_store_live pg an
abbrev Jl := @oC1 pg an
abbrev Jm := @or_store pg an
abbrev Jn := @ob_call pg an
abbrev Jo := @or_load pg an
abbrev Jp := @oS pg an
abbrev Jq := @oC2 pg an
abbrev Jr := @ob_bag_make pg an
abbrev Js := @oC3 pg an
end Go.Proofs.Ytjhgjbagmkiibaa.E
end
