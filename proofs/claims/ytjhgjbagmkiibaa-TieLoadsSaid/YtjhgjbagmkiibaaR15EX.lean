/-
  Ties: TieLoads. (Printed by sx/r15t.py.)
-/
import Derived.Test.YtjhgjbagmkiibaaR15EW
namespace Go.Proofs.Ytjhgjbagmkiibaa.E
open Go.Lg
set_option linter.unusedVariables false
set_option maxRecDepth 100000
set_option maxHeartbeats 8000000
set_option linter.unusedSimpArgs false
theorem ldE_pos {l : List TT5.T} (h : ldE l ≠ 0) : 1 ≤ ldE l := by
  rw [ldE_is] at h ⊢
  unfold dldE at h ⊢
  split
  · split
    · decide
    · rename_i h1 h2
      rw [if_pos h1, if_neg h2] at h
      exact absurd rfl h
  · decide
theorem ld_cases (l : List TT5.T) : (dmay l = false ∧ ldE l = 1) ∨ (dmay l = true ∧ (1024 : Int) < (l.length : Int) ∧ ldE l = 150) ∨ (dmay l = true ∧ (l.length : Int) ≤ 1024 ∧ ldE l = 0) := by
  rw [ldE_is]
  unfold dldE
  cases hd : dmay l with
  | false => exact .inl ⟨rfl, if_neg (by simp)⟩
  | true =>
    rw [if_pos rfl]
    by_cases hn : (1024 : Int) < (l.length : Int)
    · rw [if_pos hn]; exact .inr (.inl ⟨rfl, hn, rfl⟩)
    · rw [if_neg hn]; exact .inr (.inr ⟨rfl, by omega, rfl⟩)
theorem fn4 (bs ns ps : Bool) (l : List TT5.T) (hl : (l.length : Int) ≤ 3518437208883)  : PureC pg an 4 [.one (sv TT5 bs ns ps l)] [.one (vb true)] := by
 suffices h : ∃ rs H', Runs pg an 4 [.one (sv TT5 bs ns ps l)] [] rs H' ∧ rs.mapM (backY H') = some [.one (vb true)] by
  obtain ⟨rs, H', h1, h2⟩ := h
  exact ⟨rs, H', h1, h2⟩
 refine Runs.of (fn := Try.f4) Try.func4 rfl (by kernel_rfl) [(0, .y (.one (sv TT5 bs ns ps l)))] (by kernel_rfl) ?_
 refine Wp.regionSeq [] [(0, .y (.one (sv TT5 bs ns ps l)))] []
   (cast trivial (by kernel_rfl)) (by kernel_rfl) ?_
 refine Wp.regionSeq [] [(0, .y (.one (sv TT5 bs ns ps l))), (3, .y (.one (.sl false true true [] 0)))] []
   (cast trivial (by kernel_rfl)) (by kernel_rfl) ?_
 obtain ⟨cv1, H2, ho3, hs4⟩ := or_append_onil (P := pg) (A := an) (s := TT5) (t := 35) (u := 35) (el := 41) (by_ := 40) (z := [vi 0, vi 0, vi 0, vi 0, vi 0]) (ty := 0) (y := sv TT5 bs ns ps l) (lm := l) (m := l.length) (On.nil []) ((slCells_slO (H := []) (s := TT5) (b := bs) (nil := ns) (capd := ps) (l := l) (n := l.length) (by first | rfl | omega | (simp only [List.length_nil]; omega) | (simp; done) | (simp; omega)))) (by kernel_rfl) (by kernel_rfl) (by kernel_rfl) (by kernel_rfl) (by kernel_rfl) (by kernel_rfl) (by kernel_rfl) (by first | rfl | omega | (simp only [List.length_nil]; omega) | (simp; done) | (simp; omega)) (by omega) (by omega)
 have hs4l : (l.length : Int) = (l.length : Int) := by { first | omega | (simp only [List.length_append]; omega) | (simp; done) | (simp; omega) }
 refine Wp.regionSeq [(2, .y (.one (cv1)), H2)] [(0, .y (.one (sv TT5 bs ns ps l))), (3, .y (.one (cv1)))] H2
   (cast (And.intro ho3 trivial) (by kernel_rfl)) (by kernel_rfl) ?_
 refine Wp.gen (cs := [ownP TT5 cv1 l]) hs4 ?_
 intro H5 hs6
 obtain ⟨_, H11, hr12, ⟨he10, rfl, hs13⟩ | ⟨he10, n7, n8, n9, rfl, hs13⟩⟩ := (fun (R : HP) (H : Go.Lg.Heap) => load_ok R H cv1 l) _ (H5 : Go.Lg.Heap) (On.call [0] [] (by kernel_rfl) hs6) (by omega)
 ·
  have hs14 : On [ownP TT5 cv1 l] H11 := On.flat hs13
  have he10p := ldE_pos he10
  refine Wp.regionSeq [(1, .tup [.one (.sc (.pointer none)), .one (vi (ldE l))], H11)] [(0, .y (.one (sv TT5 bs ns ps l))), (3, .y (.one (cv1))), (4, .y (.one (.sc (.pointer none)))), (5, xi (ldE l))] H11
    (cast (And.intro (ob_call (P := pg) (A := an) (H := H5) (g := 18) (vals := [.y (.one (cv1))]) (xs0 := [.one (cv1)]) (res := [.one (.sc (.pointer none)), .one (vi (ldE l))]) (ats := #[]) (ty := 0) (v := .tup [.one (.sc (.pointer none)), .one (vi (ldE l))]) (H' := H11) [.tmp 0] (by kernel_rfl) (by kernel_rfl) hr12 (by kernel_rfl)) trivial) (by kernel_rfl)) (by kernel_rfl) ?_
  refine Wp.gen (cs := [ownP TT5 cv1 l]) hs14 ?_
  intro H15 hs16
  obtain ⟨hd17, hz19⟩ | ⟨hd17, hn18, hz19⟩ | ⟨hd17, hn18, hz19⟩ := ld_cases l
  ·
   obtain ⟨n20, hn20⟩ : ∃ n, n = List.length (H15 : Go.Lg.Heap) := ⟨_, rfl⟩
   refine Wp.regionSeq [(1, .tup [.agg [vb false, .sl false true true [] 0], .one (vi 1)], H15), (5, .y (.one (.ptr n20 0)), (H15 ++ [.obj [vb false, .sl false true true [] 0]])), (6, .tup [], (List.set (α := O) (H15 ++ [.obj [vb false, .sl false true true [] 0]]) n20 (.obj [vb false, .sl false true true [] 0])))] [(0, .y (.one (sv TT5 bs ns ps l))), (3, .y (.one (cv1))), (4, .y (.one (.sc (.pointer none)))), (5, xi (ldE l)), (6, .y (.one (.ptr n20 0))), (7, xi 1)] (List.set (α := O) (H15 ++ [.obj [vb false, .sl false true true [] 0]]) n20 (.obj [vb false, .sl false true true [] 0]))
     (cast (And.intro (ob_pure (P := pg) (A := an) (H := H15) (g := 19) (vals := [.y (.one (sv TT5 bs ns ps l))]) (xs0 := [.one (sv TT5 bs ns ps l)]) (xs1 := [.one (sv TT5 bs ns ps l)]) (res := [.agg [vb false, .sl false true true [] 0], .one (vi 1)]) (ats := #[]) (ty := 0) (v := .tup [.agg [vb false, .sl false true true [] 0], .one (vi 1)]) [.tmp 0] (by kernel_rfl) (by kernel_rfl) (snap_cons (by kernel_rfl) (snap_nil)) (rload_bad bs ns ps l (by omega) hd17) (by kernel_rfl)) (And.intro (ob_alloc (P := pg) (A := an) (H := H15) (t := 48) (ty := 0) (n := n20) (cs := [vb false, .sl false true true [] 0]) hn20 (by kernel_rfl)) (And.intro (ob_store_ptr (P := pg) (A := an) (H := (H15 ++ [.obj [vb false, .sl false true true [] 0]])) (t := 48) (ty := 0) (id := n20) (off := 0) (cs := [vb false, .sl false true true [] 0]) (cs' := [vb false, .sl false true true [] 0]) (v := .agg [vb false, .sl false true true [] 0]) (On.at (On.new' hn20 (.obj [vb false, .sl false true true [] 0]) hs16) 1 rfl) (by kernel_rfl) (by kernel_rfl) (by kernel_rfl)) trivial))) (by kernel_rfl)) (by kernel_rfl) ?_
   refine Wp.gen (cs := [ownP TT5 cv1 l, pts n20 (.obj [vb false, .sl false true true [] 0])]) (On.put (.obj [vb false, .sl false true true [] 0]) (On.new' hn20 (.obj [vb false, .sl false true true [] 0]) hs16) 1 rfl) ?_
   intro H21 hs22
   refine Wp.seq ?_
   obtain ⟨fb23, fn24, fp25, hf26⟩ := own_snap hs22 0 rfl
   refine Wp.regionSeq [(2, xb false, H21), (13, xb true, H21)] [(3, .y (.one (cv1))), (4, .y (.one (.sc (.pointer none)))), (6, .y (.one (.ptr n20 0))), (7, xi 1), (37, xb false)] H21
     (cast (And.intro (ob_raw (P := pg) (A := an) (vals := [xi (ldE l), xi 1]) (H := H21) (op := .binOp .neq 29 (.tmp 0) (.tmp 1) 29) (ty := 0) (r := xb (bneI ((ldE l)) (1))) (v := xb false) (by kernel_rfl) (congrArg (fun z => xb z) (bne_f (by omega)))) (And.intro (ob_pure (P := pg) (A := an) (H := H21) (g := 20) (vals := [.y (.one (cv1)), .y (.one (sv TT5 bs ns ps l))]) (xs0 := [.one (cv1), .one (sv TT5 bs ns ps l)]) (xs1 := [.one (sv TT5 fb23 fn24 fp25 l), .one (sv TT5 bs ns ps l)]) (res := [.one (vb true)]) (ats := #[]) (ty := 0) (v := xb true) [.tmp 0, .tmp 1] (by kernel_rfl) (by kernel_rfl) (snap_cons (snap_one hf26) (snap_cons (by kernel_rfl) (snap_nil))) (by have h9 := same_ok fb23 fn24 fp25 bs ns ps l l (by first | rfl | omega | (simp only [List.length_nil]; omega) | (simp; done) | (simp; omega)) (by first | rfl | omega | (simp only [List.length_nil]; omega) | (simp; done) | (simp; omega)); rw [show (sameB TT5 l l) = true from (sameB_iff rfl).2 rfl] at h9; exact h9) (by kernel_rfl)) trivial)) (by kernel_rfl)) (by kernel_rfl) ?_
   refine Wp.condF (by kernel_rfl) ?_
   refine Wp.skip ?_
   refine Wp.seq ?_
   refine Wp.regionSeq [] [(3, .y (.one (cv1))), (4, .y (.one (.sc (.pointer none)))), (6, .y (.one (.ptr n20 0))), (7, xi 1), (8, xi 0)] H21
     (cast trivial (by kernel_rfl)) (by kernel_rfl) ?_
   refine Wp.block ?_
   obtain ⟨rfl, hl29, hs27⟩ | ⟨k30, rfl, k30z, hs28⟩ := own_open hs22 0 rfl
   ·
    have hl29n : (l.length : Int) = 0 := by rw [hl29]; rfl
    refine Wp.loopU [(3, .y (.one (.sl false true true [] 0))), (4, .y (.one (.sc (.pointer none)))), (6, .y (.one (.ptr n20 0))), (7, xi 1), (8, xi 0)] (some ([3, 4, 6, 7, 8], false)) (List.length H21) (by kernel_rfl) ?_
    refine WpL.step ?_
    refine Wp.seq ?_
    refine Wp.regionSeq [] [(3, .y (.one (.sl false true true [] 0))), (4, .y (.one (.sc (.pointer none)))), (6, .y (.one (.ptr n20 0))), (7, xi 1), (8, xi 0), (41, xb false)] H21
      (cast trivial (by kernel_rfl)) (by kernel_rfl) ?_
    refine Wp.condF (by kernel_rfl) ?_
    refine Wp.exit ?_
    refine Eq.mpr (if_pos rfl) ?_
    obtain ⟨_, H31, hr32, rfl, hs33⟩ := awake_ok _ (H21 : Go.Lg.Heap) (On.call [] [0] (by kernel_rfl) hs27)
    have hs33 : On [pts n20 (.obj [vb false, .sl false true true [] 0])] H31 := On.flat hs33
    refine Wp.regionSeq [(9, xb true, H31)] [(2, xb true)] H31
      (cast (And.intro (ob_call (P := pg) (A := an) (H := H21) (g := 17) (vals := []) (xs0 := []) (res := [.one (vb true)]) (ats := #[]) (ty := 0) (v := xb true) (H' := H31) [] (by kernel_rfl) (by kernel_rfl) hr32 (by kernel_rfl)) trivial) (by kernel_rfl)) (by kernel_rfl) ?_
    refine Wp.gen (cs := [pts n20 (.obj [vb false, .sl false true true [] 0])]) hs33 ?_
    intro H34 hs35
    refine Wp.ret ?_
    refine ⟨Or.inr rfl, [.one (vb true)], (by kernel_rfl), ?_⟩
    exact (by kernel_rfl)
   ·
    refine Wp.loop (T := Go.Lg.Heap × Int × List TT5.T) (fun (t : Go.Lg.Heap × Int × List TT5.T) => match t with | (H37, i1, Z1) => (((l.length : Int) - i1).toNat : Nat)) (fun (t : Go.Lg.Heap × Int × List TT5.T) => match t with | (H37, i1, Z1) => ([(3, .y (.one (rowC k30 0 Z1.length 0 l.length false))), (4, .y (.one (.sc (.pointer none)))), (6, .y (.one (.ptr n20 0))), (7, xi 1), (8, xi i1)] : Env)) (fun (t : Go.Lg.Heap × Int × List TT5.T) => match t with | (H37, i1, Z1) => (H37 : Go.Lg.Heap))
      (fun (t : Go.Lg.Heap × Int × List TT5.T) => match t with | (H37, i1, Z1) => (On [pts n20 (.obj [vb false, .sl false true true [] 0]), pts k30 (rowO TT5 true 0 Z1)] H37 ∧ (0 ≤ i1) ∧ (i1 ≤ (l.length : Int)) ∧ ((Z1.length : Int) = l.length) : Prop)) (H21, 0, l) (by kernel_rfl) (⟨(On.pick [0, 1] [] (by kernel_rfl) hs28), by omega, by omega, rfl⟩) ?_
    rintro ⟨H37, i1, Z1⟩ ⟨hs38, hi11, hi12, hi13⟩
    show Wp _ _ _ _ [(3, .y (.one (rowC k30 0 Z1.length 0 l.length false))), (4, .y (.one (.sc (.pointer none)))), (6, .y (.one (.ptr n20 0))), (7, xi 1), (8, xi i1)] H37 _
    refine Wp.seq ?_
    rcases ilt (i1) ((l.length : Int)) with c39 | c39
    ·
     refine Wp.regionSeq [(2, xi (l.length : Int), H37), (3, xb true, H37)] [(3, .y (.one (rowC k30 0 Z1.length 0 l.length false))), (4, .y (.one (.sc (.pointer none)))), (6, .y (.one (.ptr n20 0))), (7, xi 1), (8, xi i1), (41, xb true)] H37
       (cast (And.intro (or_len (P := pg) (A := an) (H := H37) (s := TT5) (t := 35) (ty := 0) (pu := true) (capd := false) (id := k30) (d := 0) (o := 0) (n := l.length) (l := Z1) (e := (l.length : Int)) (On.at hs38 1 rfl) (by kernel_rfl) (by first | rfl | omega | (simp only [List.length_nil]; omega) | (simp; done) | (simp; omega))) (And.intro (ob_raw (P := pg) (A := an) (vals := [xi i1, xi (l.length : Int)]) (H := H37) (op := .binOp .lss 3 (.tmp 0) (.tmp 1) 3) (ty := 0) (r := xb (decide (ILt (i1) ((l.length : Int))))) (v := xb true) (by kernel_rfl) (congrArg (fun z => xb z) (decide_eq_true (by omega)))) trivial)) (by kernel_rfl)) (by kernel_rfl) ?_
     refine Wp.condT (by kernel_rfl) ?_
     refine Wp.skip ?_
     refine Wp.seq ?_
     refine Wp.block ?_
     obtain ⟨x40, hx40⟩ : ∃ x : TT5.T, ((Z1.drop 0).take l.length)[(i1 : Int).toNat]? = some x := get_of (by first | rfl | omega | (simp only [List.length_nil]; omega) | (simp; done) | (simp; omega))
     refine Wp.regionK [(3, .y (.one (raC k30 0 Z1.length 5 ((i1 : Int).toNat) 0)), H37), (4, .tup [], (List.set (α := O) H37 k30 (.row true true 0 (0 + Z1.length) 5 ((Z1.set ((i1 : Int).toNat) ((-7), ((0, (0, ())), ((0, (0, ())), ())))).flatMap (enc TT5)))))] [(3, .y (.one (rowC k30 0 Z1.length 0 l.length false))), (4, .y (.one (.sc (.pointer none)))), (6, .y (.one (.ptr n20 0))), (7, xi 1), (8, xi i1)] (List.set (α := O) H37 k30 (.row true true 0 (0 + Z1.length) 5 ((Z1.set ((i1 : Int).toNat) ((-7), ((0, (0, ())), ((0, (0, ())), ())))).flatMap (enc TT5))))
       (cast (And.intro (or_index (P := pg) (A := an) (H := H37) (s := TT5) (t := 35) (el := 41) (ty := 0) (pu := true) (capd := false) (id := k30) (d := 0) (o := 0) (n := l.length) (j := ((i1 : Int).toNat)) (l := Z1) (i := i1) (On.at hs38 1 rfl) Try.underlying35 (by kernel_rfl) (by omega) (by first | rfl | omega | (simp only [List.length_nil]; omega) | (simp; done) | (simp; omega)) (by first | rfl | omega | (simp only [List.length_nil]; omega) | (simp; done) | (simp; omega)) (by first | rfl | omega | (simp only [List.length_nil]; omega) | (simp; done) | (simp; omega))) (And.intro (or_store (P := pg) (A := an) (H := H37) (s := TT5) (t := 41) (ty := 0) (pu := true) (id := k30) (d := 0) (j := ((i1 : Int).toNat)) (o := 0) (l := Z1) (x := x40) (x' := ((-7), ((0, (0, ())), ((0, (0, ())), ())))) (v := .agg [vi (-7), vi 0, vi 0, vi 0, vi 0]) (On.at hs38 1 rfl) (by kernel_rfl) (of_content (L := Z1) (o := 0) (n := l.length) (rfl) hx40 (by first | rfl | omega | (simp only [List.length_nil]; omega) | (simp; done) | (simp; omega))) (by kernel_rfl) (by kernel_rfl) (by kernel_rfl) (by kernel_rfl)) trivial)) (by kernel_rfl)) (by kernel_rfl) ?_
     have hrl42 : Z1.length = (Z1.set ((i1 : Int).toNat) ((-7), ((0, (0, ())), ((0, (0, ())), ())))).length := List.length_set.symm
     refine Eq.mpr (congrArg (fun z : Nat => Wp _ _ _ _ [(3, .y (.one (rowC k30 0 z 0 l.length false))), (4, .y (.one (.sc (.pointer none)))), (6, .y (.one (.ptr n20 0))), (7, xi 1), (8, xi i1)] (List.set (α := O) H37 k30 (.row true true 0 (0 + z) 5 ((Z1.set ((i1 : Int).toNat) ((-7), ((0, (0, ())), ((0, (0, ())), ())))).flatMap (enc TT5)))) _) hrl42) ?_
     refine Wp.gen (cs := [pts n20 (.obj [vb false, .sl false true true [] 0]), pts k30 (rowO TT5 true 0 (Z1.set ((i1 : Int).toNat) ((-7), ((0, (0, ())), ((0, (0, ())), ())))))]) (Eq.mp (congrArg (fun z : Nat => On [pts n20 (.obj [vb false, .sl false true true [] 0]), pts k30 (.row true true 0 (0 + z) 5 ((Z1.set ((i1 : Int).toNat) ((-7), ((0, (0, ())), ((0, (0, ())), ())))).flatMap (enc TT5)))] (List.set (α := O) H37 k30 (.row true true 0 (0 + z) 5 ((Z1.set ((i1 : Int).toNat) ((-7), ((0, (0, ())), ((0, (0, ())), ())))).flatMap (enc TT5))))) hrl42) (On.put (.row true true 0 (0 + Z1.length) 5 ((Z1.set ((i1 : Int).toNat) ((-7), ((0, (0, ())), ((0, (0, ())), ())))).flatMap (enc TT5))) hs38 1 rfl)) ?_
     intro H43 hs44
     refine Wp.skip ?_
     refine Wp.region [(1, xi (i1 + 1), H43)] [(3, .y (.one (rowC k30 0 (Z1.set ((i1 : Int).toNat) ((-7), ((0, (0, ())), ((0, (0, ())), ())))).length 0 l.length false))), (4, .y (.one (.sc (.pointer none)))), (6, .y (.one (.ptr n20 0))), (7, xi 1), (8, xi (i1 + 1))] H43
       (cast (And.intro (ob_raw (P := pg) (A := an) (vals := [xi i1, xi 1]) (H := H43) (op := .binOp .add 3 (.tmp 0) (.tmp 1) 3) (ty := 0) (r := xi (IntKind.wrap .i64 (i1 + 1))) (v := xi (i1 + 1)) (by kernel_rfl) (congrArg (fun z => xi z) ((wrap64 (by omega)).trans (by omega)))) trivial) (by kernel_rfl)) (by kernel_rfl) ?_
     exact ⟨(H43, (i1 + 1), (Z1.set ((i1 : Int).toNat) ((-7), ((0, (0, ())), ((0, (0, ())), ()))))), by kernel_rfl, (⟨(On.pick [0, 1] [] (by kernel_rfl) hs44), by omega, by omega, (by rw [List.length_set]; omega)⟩), (by show (_ : Nat) < _; simp only []; omega)⟩
    ·
     refine Wp.regionSeq [(2, xi (l.length : Int), H37), (3, xb false, H37)] [(3, .y (.one (rowC k30 0 Z1.length 0 l.length false))), (4, .y (.one (.sc (.pointer none)))), (6, .y (.one (.ptr n20 0))), (7, xi 1), (8, xi i1), (41, xb false)] H37
       (cast (And.intro (or_len (P := pg) (A := an) (H := H37) (s := TT5) (t := 35) (ty := 0) (pu := true) (capd := false) (id := k30) (d := 0) (o := 0) (n := l.length) (l := Z1) (e := (l.length : Int)) (On.at hs38 1 rfl) (by kernel_rfl) (by first | rfl | omega | (simp only [List.length_nil]; omega) | (simp; done) | (simp; omega))) (And.intro (ob_raw (P := pg) (A := an) (vals := [xi i1, xi (l.length : Int)]) (H := H37) (op := .binOp .lss 3 (.tmp 0) (.tmp 1) 3) (ty := 0) (r := xb (decide (ILt (i1) ((l.length : Int))))) (v := xb false) (by kernel_rfl) (congrArg (fun z => xb z) (decide_eq_false (by omega)))) trivial)) (by kernel_rfl)) (by kernel_rfl) ?_
     refine Wp.condF (by kernel_rfl) ?_
     refine Wp.exit ?_
     refine Eq.mpr (if_pos rfl) ?_
     obtain ⟨_, H45, hr46, rfl, hs47⟩ := awake_ok _ (H37 : Go.Lg.Heap) (On.call [] [0, 1] (by kernel_rfl) hs38)
     have hs47 : On [pts n20 (.obj [vb false, .sl false true true [] 0]), pts k30 (rowO TT5 true 0 Z1)] H45 := On.flat hs47
     refine Wp.regionSeq [(9, xb true, H45)] [(2, xb true)] H45
       (cast (And.intro (ob_call (P := pg) (A := an) (H := H37) (g := 17) (vals := []) (xs0 := []) (res := [.one (vb true)]) (ats := #[]) (ty := 0) (v := xb true) (H' := H45) [] (by kernel_rfl) (by kernel_rfl) hr46 (by kernel_rfl)) trivial) (by kernel_rfl)) (by kernel_rfl) ?_
     refine Wp.gen (cs := [pts n20 (.obj [vb false, .sl false true true [] 0]), pts k30 (rowO TT5 true 0 Z1)]) hs47 ?_
     intro H48 hs49
     refine Wp.ret ?_
     refine ⟨Or.inr rfl, [.one (vb true)], (by kernel_rfl), ?_⟩
     exact (by kernel_rfl)
  ·
   obtain ⟨n50, hn50⟩ : ∃ n, n = List.length (H15 : Go.Lg.Heap) := ⟨_, rfl⟩
   refine Wp.regionSeq [(1, .tup [.agg [vb false, .sl false true true [] 0], .one (vi 150)], H15), (5, .y (.one (.ptr n50 0)), (H15 ++ [.obj [vb false, .sl false true true [] 0]])), (6, .tup [], (List.set (α := O) (H15 ++ [.obj [vb false, .sl false true true [] 0]]) n50 (.obj [vb false, .sl false true true [] 0])))] [(0, .y (.one (sv TT5 bs ns ps l))), (3, .y (.one (cv1))), (4, .y (.one (.sc (.pointer none)))), (5, xi (ldE l)), (6, .y (.one (.ptr n50 0))), (7, xi 150)] (List.set (α := O) (H15 ++ [.obj [vb false, .sl false true true [] 0]]) n50 (.obj [vb false, .sl false true true [] 0]))
     (cast (And.intro (ob_pure (P := pg) (A := an) (H := H15) (g := 19) (vals := [.y (.one (sv TT5 bs ns ps l))]) (xs0 := [.one (sv TT5 bs ns ps l)]) (xs1 := [.one (sv TT5 bs ns ps l)]) (res := [.agg [vb false, .sl false true true [] 0], .one (vi 150)]) (ats := #[]) (ty := 0) (v := .tup [.agg [vb false, .sl false true true [] 0], .one (vi 150)]) [.tmp 0] (by kernel_rfl) (by kernel_rfl) (snap_cons (by kernel_rfl) (snap_nil)) (rload_ties bs ns ps l (by omega) hd17 hn18) (by kernel_rfl)) (And.intro (ob_alloc (P := pg) (A := an) (H := H15) (t := 48) (ty := 0) (n := n50) (cs := [vb false, .sl false true true [] 0]) hn50 (by kernel_rfl)) (And.intro (ob_store_ptr (P := pg) (A := an) (H := (H15 ++ [.obj [vb false, .sl false true true [] 0]])) (t := 48) (ty := 0) (id := n50) (off := 0) (cs := [vb false, .sl false true true [] 0]) (cs' := [vb false, .sl false true true [] 0]) (v := .agg [vb false, .sl false true true [] 0]) (On.at (On.new' hn50 (.obj [vb false, .sl false true true [] 0]) hs16) 1 rfl) (by kernel_rfl) (by kernel_rfl) (by kernel_rfl)) trivial))) (by kernel_rfl)) (by kernel_rfl) ?_
   refine Wp.gen (cs := [ownP TT5 cv1 l, pts n50 (.obj [vb false, .sl false true true [] 0])]) (On.put (.obj [vb false, .sl false true true [] 0]) (On.new' hn50 (.obj [vb false, .sl false true true [] 0]) hs16) 1 rfl) ?_
   intro H51 hs52
   refine Wp.seq ?_
   obtain ⟨fb53, fn54, fp55, hf56⟩ := own_snap hs52 0 rfl
   refine Wp.regionSeq [(2, xb false, H51), (13, xb true, H51)] [(3, .y (.one (cv1))), (4, .y (.one (.sc (.pointer none)))), (6, .y (.one (.ptr n50 0))), (7, xi 150), (37, xb false)] H51
     (cast (And.intro (ob_raw (P := pg) (A := an) (vals := [xi (ldE l), xi 150]) (H := H51) (op := .binOp .neq 29 (.tmp 0) (.tmp 1) 29) (ty := 0) (r := xb (bneI ((ldE l)) (150))) (v := xb false) (by kernel_rfl) (congrArg (fun z => xb z) (bne_f (by omega)))) (And.intro (ob_pure (P := pg) (A := an) (H := H51) (g := 20) (vals := [.y (.one (cv1)), .y (.one (sv TT5 bs ns ps l))]) (xs0 := [.one (cv1), .one (sv TT5 bs ns ps l)]) (xs1 := [.one (sv TT5 fb53 fn54 fp55 l), .one (sv TT5 bs ns ps l)]) (res := [.one (vb true)]) (ats := #[]) (ty := 0) (v := xb true) [.tmp 0, .tmp 1] (by kernel_rfl) (by kernel_rfl) (snap_cons (snap_one hf56) (snap_cons (by kernel_rfl) (snap_nil))) (by have h9 := same_ok fb53 fn54 fp55 bs ns ps l l (by first | rfl | omega | (simp only [List.length_nil]; omega) | (simp; done) | (simp; omega)) (by first | rfl | omega | (simp only [List.length_nil]; omega) | (simp; done) | (simp; omega)); rw [show (sameB TT5 l l) = true from (sameB_iff rfl).2 rfl] at h9; exact h9) (by kernel_rfl)) trivial)) (by kernel_rfl)) (by kernel_rfl) ?_
   refine Wp.condF (by kernel_rfl) ?_
   refine Wp.skip ?_
   refine Wp.seq ?_
   refine Wp.regionSeq [] [(3, .y (.one (cv1))), (4, .y (.one (.sc (.pointer none)))), (6, .y (.one (.ptr n50 0))), (7, xi 150), (8, xi 0)] H51
     (cast trivial (by kernel_rfl)) (by kernel_rfl) ?_
   refine Wp.block ?_
   obtain ⟨rfl, hl59, hs57⟩ | ⟨k60, rfl, k60z, hs58⟩ := own_open hs52 0 rfl
   ·
    have hl59n : (l.length : Int) = 0 := by rw [hl59]; rfl
    exfalso; omega
   ·
    refine Wp.loop (T := Go.Lg.Heap × Int × List TT5.T) (fun (t : Go.Lg.Heap × Int × List TT5.T) => match t with | (H62, i1, Z1) => (((l.length : Int) - i1).toNat : Nat)) (fun (t : Go.Lg.Heap × Int × List TT5.T) => match t with | (H62, i1, Z1) => ([(3, .y (.one (rowC k60 0 Z1.length 0 l.length false))), (4, .y (.one (.sc (.pointer none)))), (6, .y (.one (.ptr n50 0))), (7, xi 150), (8, xi i1)] : Env)) (fun (t : Go.Lg.Heap × Int × List TT5.T) => match t with | (H62, i1, Z1) => (H62 : Go.Lg.Heap))
      (fun (t : Go.Lg.Heap × Int × List TT5.T) => match t with | (H62, i1, Z1) => (On [pts n50 (.obj [vb false, .sl false true true [] 0]), pts k60 (rowO TT5 true 0 Z1)] H62 ∧ (0 ≤ i1) ∧ (i1 ≤ (l.length : Int)) ∧ ((Z1.length : Int) = l.length) : Prop)) (H51, 0, l) (by kernel_rfl) (⟨(On.pick [0, 1] [] (by kernel_rfl) hs58), by omega, by omega, rfl⟩) ?_
    rintro ⟨H62, i1, Z1⟩ ⟨hs63, hi11, hi12, hi13⟩
    show Wp _ _ _ _ [(3, .y (.one (rowC k60 0 Z1.length 0 l.length false))), (4, .y (.one (.sc (.pointer none)))), (6, .y (.one (.ptr n50 0))), (7, xi 150), (8, xi i1)] H62 _
    refine Wp.seq ?_
    rcases ilt (i1) ((l.length : Int)) with c64 | c64
    ·
     refine Wp.regionSeq [(2, xi (l.length : Int), H62), (3, xb true, H62)] [(3, .y (.one (rowC k60 0 Z1.length 0 l.length false))), (4, .y (.one (.sc (.pointer none)))), (6, .y (.one (.ptr n50 0))), (7, xi 150), (8, xi i1), (41, xb true)] H62
       (cast (And.intro (or_len (P := pg) (A := an) (H := H62) (s := TT5) (t := 35) (ty := 0) (pu := true) (capd := false) (id := k60) (d := 0) (o := 0) (n := l.length) (l := Z1) (e := (l.length : Int)) (On.at hs63 1 rfl) (by kernel_rfl) (by first | rfl | omega | (simp only [List.length_nil]; omega) | (simp; done) | (simp; omega))) (And.intro (ob_raw (P := pg) (A := an) (vals := [xi i1, xi (l.length : Int)]) (H := H62) (op := .binOp .lss 3 (.tmp 0) (.tmp 1) 3) (ty := 0) (r := xb (decide (ILt (i1) ((l.length : Int))))) (v := xb true) (by kernel_rfl) (congrArg (fun z => xb z) (decide_eq_true (by omega)))) trivial)) (by kernel_rfl)) (by kernel_rfl) ?_
     refine Wp.condT (by kernel_rfl) ?_
     refine Wp.skip ?_
     refine Wp.seq ?_
     refine Wp.block ?_
     obtain ⟨x65, hx65⟩ : ∃ x : TT5.T, ((Z1.drop 0).take l.length)[(i1 : Int).toNat]? = some x := get_of (by first | rfl | omega | (simp only [List.length_nil]; omega) | (simp; done) | (simp; omega))
     refine Wp.regionK [(3, .y (.one (raC k60 0 Z1.length 5 ((i1 : Int).toNat) 0)), H62), (4, .tup [], (List.set (α := O) H62 k60 (.row true true 0 (0 + Z1.length) 5 ((Z1.set ((i1 : Int).toNat) ((-7), ((0, (0, ())), ((0, (0, ())), ())))).flatMap (enc TT5)))))] [(3, .y (.one (rowC k60 0 Z1.length 0 l.length false))), (4, .y (.one (.sc (.pointer none)))), (6, .y (.one (.ptr n50 0))), (7, xi 150), (8, xi i1)] (List.set (α := O) H62 k60 (.row true true 0 (0 + Z1.length) 5 ((Z1.set ((i1 : Int).toNat) ((-7), ((0, (0, ())), ((0, (0, ())), ())))).flatMap (enc TT5))))
       (cast (And.intro (or_index (P := pg) (A := an) (H := H62) (s := TT5) (t := 35) (el := 41) (ty := 0) (pu := true) (capd := false) (id := k60) (d := 0) (o := 0) (n := l.length) (j := ((i1 : Int).toNat)) (l := Z1) (i := i1) (On.at hs63 1 rfl) Try.underlying35 (by kernel_rfl) (by omega) (by first | rfl | omega | (simp only [List.length_nil]; omega) | (simp; done) | (simp; omega)) (by first | rfl | omega | (simp only [List.length_nil]; omega) | (simp; done) | (simp; omega)) (by first | rfl | omega | (simp only [List.length_nil]; omega) | (simp; done) | (simp; omega))) (And.intro (or_store (P := pg) (A := an) (H := H62) (s := TT5) (t := 41) (ty := 0) (pu := true) (id := k60) (d := 0) (j := ((i1 : Int).toNat)) (o := 0) (l := Z1) (x := x65) (x' := ((-7), ((0, (0, ())), ((0, (0, ())), ())))) (v := .agg [vi (-7), vi 0, vi 0, vi 0, vi 0]) (On.at hs63 1 rfl) (by kernel_rfl) (of_content (L := Z1) (o := 0) (n := l.length) (rfl) hx65 (by first | rfl | omega | (simp only [List.length_nil]; omega) | (simp; done) | (simp; omega))) (by kernel_rfl) (by kernel_rfl) (by kernel_rfl) (by kernel_rfl)) trivial)) (by kernel_rfl)) (by kernel_rfl) ?_
     have hrl67 : Z1.length = (Z1.set ((i1 : Int).toNat) ((-7), ((0, (0, ())), ((0, (0, ())), ())))).length := List.length_set.symm
     refine Eq.mpr (congrArg (fun z : Nat => Wp _ _ _ _ [(3, .y (.one (rowC k60 0 z 0 l.length false))), (4, .y (.one (.sc (.pointer none)))), (6, .y (.one (.ptr n50 0))), (7, xi 150), (8, xi i1)] (List.set (α := O) H62 k60 (.row true true 0 (0 + z) 5 ((Z1.set ((i1 : Int).toNat) ((-7), ((0, (0, ())), ((0, (0, ())), ())))).flatMap (enc TT5)))) _) hrl67) ?_
     refine Wp.gen (cs := [pts n50 (.obj [vb false, .sl false true true [] 0]), pts k60 (rowO TT5 true 0 (Z1.set ((i1 : Int).toNat) ((-7), ((0, (0, ())), ((0, (0, ())), ())))))]) (Eq.mp (congrArg (fun z : Nat => On [pts n50 (.obj [vb false, .sl false true true [] 0]), pts k60 (.row true true 0 (0 + z) 5 ((Z1.set ((i1 : Int).toNat) ((-7), ((0, (0, ())), ((0, (0, ())), ())))).flatMap (enc TT5)))] (List.set (α := O) H62 k60 (.row true true 0 (0 + z) 5 ((Z1.set ((i1 : Int).toNat) ((-7), ((0, (0, ())), ((0, (0, ())), ())))).flatMap (enc TT5))))) hrl67) (On.put (.row true true 0 (0 + Z1.length) 5 ((Z1.set ((i1 : Int).toNat) ((-7), ((0, (0, ())), ((0, (0, ())), ())))).flatMap (enc TT5))) hs63 1 rfl)) ?_
     intro H68 hs69
     refine Wp.skip ?_
     refine Wp.region [(1, xi (i1 + 1), H68)] [(3, .y (.one (rowC k60 0 (Z1.set ((i1 : Int).toNat) ((-7), ((0, (0, ())), ((0, (0, ())), ())))).length 0 l.length false))), (4, .y (.one (.sc (.pointer none)))), (6, .y (.one (.ptr n50 0))), (7, xi 150), (8, xi (i1 + 1))] H68
       (cast (And.intro (ob_raw (P := pg) (A := an) (vals := [xi i1, xi 1]) (H := H68) (op := .binOp .add 3 (.tmp 0) (.tmp 1) 3) (ty := 0) (r := xi (IntKind.wrap .i64 (i1 + 1))) (v := xi (i1 + 1)) (by kernel_rfl) (congrArg (fun z => xi z) ((wrap64 (by omega)).trans (by omega)))) trivial) (by kernel_rfl)) (by kernel_rfl) ?_
     exact ⟨(H68, (i1 + 1), (Z1.set ((i1 : Int).toNat) ((-7), ((0, (0, ())), ((0, (0, ())), ()))))), by kernel_rfl, (⟨(On.pick [0, 1] [] (by kernel_rfl) hs69), by omega, by omega, (by rw [List.length_set]; omega)⟩), (by show (_ : Nat) < _; simp only []; omega)⟩
    ·
     refine Wp.regionSeq [(2, xi (l.length : Int), H62), (3, xb false, H62)] [(3, .y (.one (rowC k60 0 Z1.length 0 l.length false))), (4, .y (.one (.sc (.pointer none)))), (6, .y (.one (.ptr n50 0))), (7, xi 150), (8, xi i1), (41, xb false)] H62
       (cast (And.intro (or_len (P := pg) (A := an) (H := H62) (s := TT5) (t := 35) (ty := 0) (pu := true) (capd := false) (id := k60) (d := 0) (o := 0) (n := l.length) (l := Z1) (e := (l.length : Int)) (On.at hs63 1 rfl) (by kernel_rfl) (by first | rfl | omega | (simp only [List.length_nil]; omega) | (simp; done) | (simp; omega))) (And.intro (ob_raw (P := pg) (A := an) (vals := [xi i1, xi (l.length : Int)]) (H := H62) (op := .binOp .lss 3 (.tmp 0) (.tmp 1) 3) (ty := 0) (r := xb (decide (ILt (i1) ((l.length : Int))))) (v := xb false) (by kernel_rfl) (congrArg (fun z => xb z) (decide_eq_false (by omega)))) trivial)) (by kernel_rfl)) (by kernel_rfl) ?_
     refine Wp.condF (by kernel_rfl) ?_
     refine Wp.exit ?_
     refine Eq.mpr (if_pos rfl) ?_
     obtain ⟨_, H70, hr71, rfl, hs72⟩ := awake_ok _ (H62 : Go.Lg.Heap) (On.call [] [0, 1] (by kernel_rfl) hs63)
     have hs72 : On [pts n50 (.obj [vb false, .sl false true true [] 0]), pts k60 (rowO TT5 true 0 Z1)] H70 := On.flat hs72
     refine Wp.regionSeq [(9, xb true, H70)] [(2, xb true)] H70
       (cast (And.intro (ob_call (P := pg) (A := an) (H := H62) (g := 17) (vals := []) (xs0 := []) (res := [.one (vb true)]) (ats := #[]) (ty := 0) (v := xb true) (H' := H70) [] (by kernel_rfl) (by kernel_rfl) hr71 (by kernel_rfl)) trivial) (by kernel_rfl)) (by kernel_rfl) ?_
     refine Wp.gen (cs := [pts n50 (.obj [vb false, .sl false true true [] 0]), pts k60 (rowO TT5 true 0 Z1)]) hs72 ?_
     intro H73 hs74
     refine Wp.ret ?_
     refine ⟨Or.inr rfl, [.one (vb true)], (by kernel_rfl), ?_⟩
     exact (by kernel_rfl)
  ·
   exfalso; omega
 ·
  have hs75 : On [ownP TT5 cv1 l, pts n7 (lnkO (ldL l)), pts n8 (monO (ldM l)), pts n9 (.obj [.mp n7, .mp n8])] H11 := On.flat hs13
  refine Wp.regionSeq [(1, .tup [.one (.ptr n9 0), .one (vi 0)], H11)] [(0, .y (.one (sv TT5 bs ns ps l))), (3, .y (.one (cv1))), (4, .y (.one (.ptr n9 0))), (5, xi 0)] H11
    (cast (And.intro (ob_call (P := pg) (A := an) (H := H5) (g := 18) (vals := [.y (.one (cv1))]) (xs0 := [.one (cv1)]) (res := [.one (.ptr n9 0), .one (vi 0)]) (ats := #[]) (ty := 0) (v := .tup [.one (.ptr n9 0), .one (vi 0)]) (H' := H11) [.tmp 0] (by kernel_rfl) (by kernel_rfl) hr12 (by kernel_rfl)) trivial) (by kernel_rfl)) (by kernel_rfl) ?_
  refine Wp.gen (cs := [ownP TT5 cv1 l, pts n7 (lnkO (ldL l)), pts n8 (monO (ldM l)), pts n9 (.obj [.mp n7, .mp n8])]) hs75 ?_
  intro H76 hs77
  obtain ⟨hd78, hz80⟩ | ⟨hd78, hn79, hz80⟩ | ⟨hd78, hn79, hz80⟩ := ld_cases l
  ·
   exfalso; omega
  ·
   exfalso; omega
  ·
   obtain ⟨n81, p82, hp83⟩ := rload_ok bs ns ps l (by omega) hd78 hn79
   obtain ⟨n84, hn84⟩ : ∃ n, n = List.length (H76 : Go.Lg.Heap) := ⟨_, rfl⟩
   refine Wp.regionSeq [(1, .tup [.agg [vb true, sv TT5 false n81 p82 l], .one (vi 0)], H76), (5, .y (.one (.ptr n84 0)), (H76 ++ [.obj [vb false, .sl false true true [] 0]])), (6, .tup [], (List.set (α := O) (H76 ++ [.obj [vb false, .sl false true true [] 0]]) n84 (.obj [vb true, sv TT5 false n81 p82 l])))] [(0, .y (.one (sv TT5 bs ns ps l))), (3, .y (.one (cv1))), (4, .y (.one (.ptr n9 0))), (5, xi 0), (6, .y (.one (.ptr n84 0))), (7, xi 0)] (List.set (α := O) (H76 ++ [.obj [vb false, .sl false true true [] 0]]) n84 (.obj [vb true, sv TT5 false n81 p82 l]))
     (cast (And.intro (ob_pure (P := pg) (A := an) (H := H76) (g := 19) (vals := [.y (.one (sv TT5 bs ns ps l))]) (xs0 := [.one (sv TT5 bs ns ps l)]) (xs1 := [.one (sv TT5 bs ns ps l)]) (res := [.agg [vb true, sv TT5 false n81 p82 l], .one (vi 0)]) (ats := #[]) (ty := 0) (v := .tup [.agg [vb true, sv TT5 false n81 p82 l], .one (vi 0)]) [.tmp 0] (by kernel_rfl) (by kernel_rfl) (snap_cons (by kernel_rfl) (snap_nil)) hp83 (by kernel_rfl)) (And.intro (ob_alloc (P := pg) (A := an) (H := H76) (t := 48) (ty := 0) (n := n84) (cs := [vb false, .sl false true true [] 0]) hn84 (by kernel_rfl)) (And.intro (ob_store_ptr (P := pg) (A := an) (H := (H76 ++ [.obj [vb false, .sl false true true [] 0]])) (t := 48) (ty := 0) (id := n84) (off := 0) (cs := [vb false, .sl false true true [] 0]) (cs' := [vb true, sv TT5 false n81 p82 l]) (v := .agg [vb true, sv TT5 false n81 p82 l]) (On.at (On.new' hn84 (.obj [vb false, .sl false true true [] 0]) hs77) 4 rfl) (by kernel_rfl) (by kernel_rfl) (by kernel_rfl)) trivial))) (by kernel_rfl)) (by kernel_rfl) ?_
   refine Wp.gen (cs := [ownP TT5 cv1 l, pts n7 (lnkO (ldL l)), pts n8 (monO (ldM l)), pts n9 (.obj [.mp n7, .mp n8]), pts n84 (.obj [vb true, sv TT5 false n81 p82 l])]) (On.put (.obj [vb true, sv TT5 false n81 p82 l]) (On.new' hn84 (.obj [vb false, .sl false true true [] 0]) hs77) 4 rfl) ?_
   intro H85 hs86
   refine Wp.seq ?_
   obtain ⟨fb87, fn88, fp89, hf90⟩ := own_snap hs86 0 rfl
   refine Wp.regionSeq [(13, xb true, H85)] [(3, .y (.one (cv1))), (4, .y (.one (.ptr n9 0))), (6, .y (.one (.ptr n84 0))), (7, xi 0), (37, xb false)] H85
     (cast (And.intro (ob_pure (P := pg) (A := an) (H := H85) (g := 20) (vals := [.y (.one (cv1)), .y (.one (sv TT5 bs ns ps l))]) (xs0 := [.one (cv1), .one (sv TT5 bs ns ps l)]) (xs1 := [.one (sv TT5 fb87 fn88 fp89 l), .one (sv TT5 bs ns ps l)]) (res := [.one (vb true)]) (ats := #[]) (ty := 0) (v := xb true) [.tmp 0, .tmp 1] (by kernel_rfl) (by kernel_rfl) (snap_cons (snap_one hf90) (snap_cons (by kernel_rfl) (snap_nil))) (by have h9 := same_ok fb87 fn88 fp89 bs ns ps l l (by first | rfl | omega | (simp only [List.length_nil]; omega) | (simp; done) | (simp; omega)) (by first | rfl | omega | (simp only [List.length_nil]; omega) | (simp; done) | (simp; omega)); rw [show (sameB TT5 l l) = true from (sameB_iff rfl).2 rfl] at h9; exact h9) (by kernel_rfl)) trivial) (by kernel_rfl)) (by kernel_rfl) ?_
   refine Wp.condF (by kernel_rfl) ?_
   refine Wp.skip ?_
   refine Wp.seq ?_
   refine Wp.regionSeq [] [(3, .y (.one (cv1))), (4, .y (.one (.ptr n9 0))), (6, .y (.one (.ptr n84 0))), (7, xi 0), (8, xi 0)] H85
     (cast trivial (by kernel_rfl)) (by kernel_rfl) ?_
   refine Wp.block ?_
   obtain ⟨rfl, hl93, hs91⟩ | ⟨k94, rfl, k94z, hs92⟩ := own_open hs86 0 rfl
   ·
    have hl93n : (l.length : Int) = 0 := by rw [hl93]; rfl
    refine Wp.loopU [(3, .y (.one (.sl false true true [] 0))), (4, .y (.one (.ptr n9 0))), (6, .y (.one (.ptr n84 0))), (7, xi 0), (8, xi 0)] (some ([3, 4, 6, 7, 8], false)) (List.length H85) (by kernel_rfl) ?_
    refine WpL.step ?_
    refine Wp.seq ?_
    refine Wp.regionSeq [] [(3, .y (.one (.sl false true true [] 0))), (4, .y (.one (.ptr n9 0))), (6, .y (.one (.ptr n84 0))), (7, xi 0), (8, xi 0), (41, xb false)] H85
      (cast trivial (by kernel_rfl)) (by kernel_rfl) ?_
    refine Wp.condF (by kernel_rfl) ?_
    refine Wp.exit ?_
    refine Eq.mpr (if_pos rfl) ?_
    obtain ⟨_, H95, hr96, rfl, hs97⟩ := is_ok _ (H85 : Go.Lg.Heap) n9 n7 n8 (ldL l) (ldM l) false n81 p82 l (1, (1, ())) (On.call [2, 0, 1] [3] (by kernel_rfl) hs91) (ldE_inv he10).1 (ldE_inv he10).2
    have hs97 : On [pts n84 (.obj [vb true, sv TT5 false n81 p82 l]), pts n9 (.obj [.mp n7, .mp n8]), pts n7 (lnkO (ldL l)), pts n8 (monO (ldM l))] H95 := On.flat hs97
    obtain ⟨_, H98, hr99, rfl, hs100⟩ := awake_ok _ (H95 : Go.Lg.Heap) (On.call [] [0, 1, 2, 3] (by kernel_rfl) hs97)
    have hs100 : On [pts n84 (.obj [vb true, sv TT5 false n81 p82 l]), pts n9 (.obj [.mp n7, .mp n8]), pts n7 (lnkO (ldL l)), pts n8 (monO (ldM l))] H98 := On.flat hs100
    refine Wp.regionSeq [(4, .y (.agg [vb true, sv TT5 false n81 p82 l]), H85), (6, xb true, H95), (9, xb true, H98)] [(2, xb true)] H98
      (cast (And.intro (ob_load_ptr (P := pg) (A := an) (H := H85) (t := 48) (ty := 0) (id := n84) (off := 0) (n := 2) (cs := [vb true, sv TT5 false n81 p82 l]) (cs' := [vb true, sv TT5 false n81 p82 l]) (v := .agg [vb true, sv TT5 false n81 p82 l]) (On.at hs91 3 rfl) (by kernel_rfl) (by kernel_rfl) (by kernel_rfl) (by kernel_rfl)) (And.intro (ob_call (P := pg) (A := an) (H := H85) (g := 21) (vals := [.y (.one (.ptr n9 0)), .y (.agg [vb true, sv TT5 false n81 p82 l]), .y (.agg [vi 1, vi 1])]) (xs0 := [.one (.ptr n9 0), .agg [vb true, sv TT5 false n81 p82 l], .agg [vi 1, vi 1]]) (res := [.one (vb true)]) (ats := #[]) (ty := 0) (v := xb true) (H' := H95) [.tmp 0, .tmp 1, .tmp 2] (by kernel_rfl) (by kernel_rfl) hr96 (by kernel_rfl)) (And.intro (ob_call (P := pg) (A := an) (H := H95) (g := 17) (vals := []) (xs0 := []) (res := [.one (vb true)]) (ats := #[]) (ty := 0) (v := xb true) (H' := H98) [] (by kernel_rfl) (by kernel_rfl) hr99 (by kernel_rfl)) trivial))) (by kernel_rfl)) (by kernel_rfl) ?_
    refine Wp.gen (cs := [pts n84 (.obj [vb true, sv TT5 false n81 p82 l]), pts n9 (.obj [.mp n7, .mp n8]), pts n7 (lnkO (ldL l)), pts n8 (monO (ldM l))]) hs100 ?_
    intro H101 hs102
    refine Wp.ret ?_
    refine ⟨Or.inr rfl, [.one (vb true)], (by kernel_rfl), ?_⟩
    exact (by kernel_rfl)
   ·
    refine Wp.loop (T := Go.Lg.Heap × Int × List TT5.T) (fun (t : Go.Lg.Heap × Int × List TT5.T) => match t with | (H104, i1, Z1) => (((l.length : Int) - i1).toNat : Nat)) (fun (t : Go.Lg.Heap × Int × List TT5.T) => match t with | (H104, i1, Z1) => ([(3, .y (.one (rowC k94 0 Z1.length 0 l.length false))), (4, .y (.one (.ptr n9 0))), (6, .y (.one (.ptr n84 0))), (7, xi 0), (8, xi i1)] : Env)) (fun (t : Go.Lg.Heap × Int × List TT5.T) => match t with | (H104, i1, Z1) => (H104 : Go.Lg.Heap))
      (fun (t : Go.Lg.Heap × Int × List TT5.T) => match t with | (H104, i1, Z1) => (On [pts n7 (lnkO (ldL l)), pts n8 (monO (ldM l)), pts n9 (.obj [.mp n7, .mp n8]), pts n84 (.obj [vb true, sv TT5 false n81 p82 l]), pts k94 (rowO TT5 true 0 Z1)] H104 ∧ (0 ≤ i1) ∧ (i1 ≤ (l.length : Int)) ∧ ((Z1.length : Int) = l.length) : Prop)) (H85, 0, l) (by kernel_rfl) (⟨(On.pick [0, 1, 2, 3, 4] [] (by kernel_rfl) hs92), by omega, by omega, rfl⟩) ?_
    rintro ⟨H104, i1, Z1⟩ ⟨hs105, hi11, hi12, hi13⟩
    show Wp _ _ _ _ [(3, .y (.one (rowC k94 0 Z1.length 0 l.length false))), (4, .y (.one (.ptr n9 0))), (6, .y (.one (.ptr n84 0))), (7, xi 0), (8, xi i1)] H104 _
    refine Wp.seq ?_
    rcases ilt (i1) ((l.length : Int)) with c106 | c106
    ·
     refine Wp.regionSeq [(2, xi (l.length : Int), H104), (3, xb true, H104)] [(3, .y (.one (rowC k94 0 Z1.length 0 l.length false))), (4, .y (.one (.ptr n9 0))), (6, .y (.one (.ptr n84 0))), (7, xi 0), (8, xi i1), (41, xb true)] H104
       (cast (And.intro (or_len (P := pg) (A := an) (H := H104) (s := TT5) (t := 35) (ty := 0) (pu := true) (capd := false) (id := k94) (d := 0) (o := 0) (n := l.length) (l := Z1) (e := (l.length : Int)) (On.at hs105 4 rfl) (by kernel_rfl) (by first | rfl | omega | (simp only [List.length_nil]; omega) | (simp; done) | (simp; omega))) (And.intro (ob_raw (P := pg) (A := an) (vals := [xi i1, xi (l.length : Int)]) (H := H104) (op := .binOp .lss 3 (.tmp 0) (.tmp 1) 3) (ty := 0) (r := xb (decide (ILt (i1) ((l.length : Int))))) (v := xb true) (by kernel_rfl) (congrArg (fun z => xb z) (decide_eq_true (by omega)))) trivial)) (by kernel_rfl)) (by kernel_rfl) ?_
     refine Wp.condT (by kernel_rfl) ?_
     refine Wp.skip ?_
     refine Wp.seq ?_
     refine Wp.block ?_
     obtain ⟨x107, hx107⟩ : ∃ x : TT5.T, ((Z1.drop 0).take l.length)[(i1 : Int).toNat]? = some x := get_of (by first | rfl | omega | (simp only [List.length_nil]; omega) | (simp; done) | (simp; omega))
     refine Wp.regionK [(3, .y (.one (raC k94 0 Z1.length 5 ((i1 : Int).toNat) 0)), H104), (4, .tup [], (List.set (α := O) H104 k94 (.row true true 0 (0 + Z1.length) 5 ((Z1.set ((i1 : Int).toNat) ((-7), ((0, (0, ())), ((0, (0, ())), ())))).flatMap (enc TT5)))))] [(3, .y (.one (rowC k94 0 Z1.length 0 l.length false))), (4, .y (.one (.ptr n9 0))), (6, .y (.one (.ptr n84 0))), (7, xi 0), (8, xi i1)] (List.set (α := O) H104 k94 (.row true true 0 (0 + Z1.length) 5 ((Z1.set ((i1 : Int).toNat) ((-7), ((0, (0, ())), ((0, (0, ())), ())))).flatMap (enc TT5))))
       (cast (And.intro (or_index (P := pg) (A := an) (H := H104) (s := TT5) (t := 35) (el := 41) (ty := 0) (pu := true) (capd := false) (id := k94) (d := 0) (o := 0) (n := l.length) (j := ((i1 : Int).toNat)) (l := Z1) (i := i1) (On.at hs105 4 rfl) Try.underlying35 (by kernel_rfl) (by omega) (by first | rfl | omega | (simp only [List.length_nil]; omega) | (simp; done) | (simp; omega)) (by first | rfl | omega | (simp only [List.length_nil]; omega) | (simp; done) | (simp; omega)) (by first | rfl | omega | (simp only [List.length_nil]; omega) | (simp; done) | (simp; omega))) (And.intro (or_store (P := pg) (A := an) (H := H104) (s := TT5) (t := 41) (ty := 0) (pu := true) (id := k94) (d := 0) (j := ((i1 : Int).toNat)) (o := 0) (l := Z1) (x := x107) (x' := ((-7), ((0, (0, ())), ((0, (0, ())), ())))) (v := .agg [vi (-7), vi 0, vi 0, vi 0, vi 0]) (On.at hs105 4 rfl) (by kernel_rfl) (of_content (L := Z1) (o := 0) (n := l.length) (rfl) hx107 (by first | rfl | omega | (simp only [List.length_nil]; omega) | (simp; done) | (simp; omega))) (by kernel_rfl) (by kernel_rfl) (by kernel_rfl) (by kernel_rfl)) trivial)) (by kernel_rfl)) (by kernel_rfl) ?_
     have hrl109 : Z1.length = (Z1.set ((i1 : Int).toNat) ((-7), ((0, (0, ())), ((0, (0, ())), ())))).length := List.length_set.symm
     refine Eq.mpr (congrArg (fun z : Nat => Wp _ _ _ _ [(3, .y (.one (rowC k94 0 z 0 l.length false))), (4, .y (.one (.ptr n9 0))), (6, .y (.one (.ptr n84 0))), (7, xi 0), (8, xi i1)] (List.set (α := O) H104 k94 (.row true true 0 (0 + z) 5 ((Z1.set ((i1 : Int).toNat) ((-7), ((0, (0, ())), ((0, (0, ())), ())))).flatMap (enc TT5)))) _) hrl109) ?_
     refine Wp.gen (cs := [pts n7 (lnkO (ldL l)), pts n8 (monO (ldM l)), pts n9 (.obj [.mp n7, .mp n8]), pts n84 (.obj [vb true, sv TT5 false n81 p82 l]), pts k94 (rowO TT5 true 0 (Z1.set ((i1 : Int).toNat) ((-7), ((0, (0, ())), ((0, (0, ())), ())))))]) (Eq.mp (congrArg (fun z : Nat => On [pts n7 (lnkO (ldL l)), pts n8 (monO (ldM l)), pts n9 (.obj [.mp n7, .mp n8]), pts n84 (.obj [vb true, sv TT5 false n81 p82 l]), pts k94 (.row true true 0 (0 + z) 5 ((Z1.set ((i1 : Int).toNat) ((-7), ((0, (0, ())), ((0, (0, ())), ())))).flatMap (enc TT5)))] (List.set (α := O) H104 k94 (.row true true 0 (0 + z) 5 ((Z1.set ((i1 : Int).toNat) ((-7), ((0, (0, ())), ((0, (0, ())), ())))).flatMap (enc TT5))))) hrl109) (On.put (.row true true 0 (0 + Z1.length) 5 ((Z1.set ((i1 : Int).toNat) ((-7), ((0, (0, ())), ((0, (0, ())), ())))).flatMap (enc TT5))) hs105 4 rfl)) ?_
     intro H110 hs111
     refine Wp.skip ?_
     refine Wp.region [(1, xi (i1 + 1), H110)] [(3, .y (.one (rowC k94 0 (Z1.set ((i1 : Int).toNat) ((-7), ((0, (0, ())), ((0, (0, ())), ())))).length 0 l.length false))), (4, .y (.one (.ptr n9 0))), (6, .y (.one (.ptr n84 0))), (7, xi 0), (8, xi (i1 + 1))] H110
       (cast (And.intro (ob_raw (P := pg) (A := an) (vals := [xi i1, xi 1]) (H := H110) (op := .binOp .add 3 (.tmp 0) (.tmp 1) 3) (ty := 0) (r := xi (IntKind.wrap .i64 (i1 + 1))) (v := xi (i1 + 1)) (by kernel_rfl) (congrArg (fun z => xi z) ((wrap64 (by omega)).trans (by omega)))) trivial) (by kernel_rfl)) (by kernel_rfl) ?_
     exact ⟨(H110, (i1 + 1), (Z1.set ((i1 : Int).toNat) ((-7), ((0, (0, ())), ((0, (0, ())), ()))))), by kernel_rfl, (⟨(On.pick [0, 1, 2, 3, 4] [] (by kernel_rfl) hs111), by omega, by omega, (by rw [List.length_set]; omega)⟩), (by show (_ : Nat) < _; simp only []; omega)⟩
    ·
     refine Wp.regionSeq [(2, xi (l.length : Int), H104), (3, xb false, H104)] [(3, .y (.one (rowC k94 0 Z1.length 0 l.length false))), (4, .y (.one (.ptr n9 0))), (6, .y (.one (.ptr n84 0))), (7, xi 0), (8, xi i1), (41, xb false)] H104
       (cast (And.intro (or_len (P := pg) (A := an) (H := H104) (s := TT5) (t := 35) (ty := 0) (pu := true) (capd := false) (id := k94) (d := 0) (o := 0) (n := l.length) (l := Z1) (e := (l.length : Int)) (On.at hs105 4 rfl) (by kernel_rfl) (by first | rfl | omega | (simp only [List.length_nil]; omega) | (simp; done) | (simp; omega))) (And.intro (ob_raw (P := pg) (A := an) (vals := [xi i1, xi (l.length : Int)]) (H := H104) (op := .binOp .lss 3 (.tmp 0) (.tmp 1) 3) (ty := 0) (r := xb (decide (ILt (i1) ((l.length : Int))))) (v := xb false) (by kernel_rfl) (congrArg (fun z => xb z) (decide_eq_false (by omega)))) trivial)) (by kernel_rfl)) (by kernel_rfl) ?_
     refine Wp.condF (by kernel_rfl) ?_
     refine Wp.exit ?_
     refine Eq.mpr (if_pos rfl) ?_
     obtain ⟨_, H112, hr113, rfl, hs114⟩ := is_ok _ (H104 : Go.Lg.Heap) n9 n7 n8 (ldL l) (ldM l) false n81 p82 l (1, (1, ())) (On.call [2, 0, 1] [3, 4] (by kernel_rfl) hs105) (ldE_inv he10).1 (ldE_inv he10).2
     have hs114 : On [pts n84 (.obj [vb true, sv TT5 false n81 p82 l]), pts k94 (rowO TT5 true 0 Z1), pts n9 (.obj [.mp n7, .mp n8]), pts n7 (lnkO (ldL l)), pts n8 (monO (ldM l))] H112 := On.flat hs114
     obtain ⟨_, H115, hr116, rfl, hs117⟩ := awake_ok _ (H112 : Go.Lg.Heap) (On.call [] [0, 1, 2, 3, 4] (by kernel_rfl) hs114)
     have hs117 : On [pts n84 (.obj [vb true, sv TT5 false n81 p82 l]), pts k94 (rowO TT5 true 0 Z1), pts n9 (.obj [.mp n7, .mp n8]), pts n7 (lnkO (ldL l)), pts n8 (monO (ldM l))] H115 := On.flat hs117
     refine Wp.regionSeq [(4, .y (.agg [vb true, sv TT5 false n81 p82 l]), H104), (6, xb true, H112), (9, xb true, H115)] [(2, xb true)] H115
       (cast (And.intro (ob_load_ptr (P := pg) (A := an) (H := H104) (t := 48) (ty := 0) (id := n84) (off := 0) (n := 2) (cs := [vb true, sv TT5 false n81 p82 l]) (cs' := [vb true, sv TT5 false n81 p82 l]) (v := .agg [vb true, sv TT5 false n81 p82 l]) (On.at hs105 3 rfl) (by kernel_rfl) (by kernel_rfl) (by kernel_rfl) (by kernel_rfl)) (And.intro (ob_call (P := pg) (A := an) (H := H104) (g := 21) (vals := [.y (.one (.ptr n9 0)), .y (.agg [vb true, sv TT5 false n81 p82 l]), .y (.agg [vi 1, vi 1])]) (xs0 := [.one (.ptr n9 0), .agg [vb true, sv TT5 false n81 p82 l], .agg [vi 1, vi 1]]) (res := [.one (vb true)]) (ats := #[]) (ty := 0) (v := xb true) (H' := H112) [.tmp 0, .tmp 1, .tmp 2] (by kernel_rfl) (by kernel_rfl) hr113 (by kernel_rfl)) (And.intro (ob_call (P := pg) (A := an) (H := H112) (g := 17) (vals := []) (xs0 := []) (res := [.one (vb true)]) (ats := #[]) (ty := 0) (v := xb true) (H' := H115) [] (by kernel_rfl) (by kernel_rfl) hr116 (by kernel_rfl)) trivial))) (by kernel_rfl)) (by kernel_rfl) ?_
     refine Wp.gen (cs := [pts n84 (.obj [vb true, sv TT5 false n81 p82 l]), pts k94 (rowO TT5 true 0 Z1), pts n9 (.obj [.mp n7, .mp n8]), pts n7 (lnkO (ldL l)), pts n8 (monO (ldM l))]) hs117 ?_
     intro H118 hs119
     refine Wp.ret ?_
     refine ⟨Or.inr rfl, [.one (vb true)], (by kernel_rfl), ?_⟩
     exact (by kernel_rfl)
end Go.Proofs.Ytjhgjbagmkiibaa.E
