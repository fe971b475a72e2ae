/- Lemmas. -/
import Derived.Test.YtjhgjbagmkiibaaR15TC
import Derived.Test.YtjhgjbagmkiibaaR15TR
import Derived.Test.YtjhgjbagmkiibaaX30
import Derived.Test.YtjhgjbagmkiibaaX15
section
namespace Go.Proofs.Ytjhgjbagmkiibaa.E0
open Go.Lg
set_option linter.unusedVariables false
set_option maxRecDepth 100000
set_option maxHeartbeats 8000000
set_option linter.unusedSimpArgs false
theorem new_x (R : HP) (H : Go.Lg.Heap) (hs : On [R] H) : ∃ rs H', Runs pg an 7 [] H rs H' ∧ ∃ n1 n2 n3, n1 = H.length ∧ n2 = H.length + 1 ∧ n3 = H.length + 2 ∧ rs = [.one (.ptr n3 0)] ∧ On [R, pts n1 (lnkO []), pts n2 (monO []), pts n3 (.obj [.mp n1, .mp n2])] H' := by
 refine Runs.of (fn := Try.f7) Try.func7 rfl (by kernel_rfl) [] (by kernel_rfl) ?_
 refine rSq [] [] H
   (cast trivial (by kernel_rfl)) (by kernel_rfl) ?_
 obtain ⟨n1, hn1⟩ : ∃ n, n = List.length (H : Go.Lg.Heap) := ⟨_, rfl⟩
 obtain ⟨n2, hn2⟩ : ∃ n, n = List.length ((H ++ [lnkO ([] : List PR.T)]) : Go.Lg.Heap) := ⟨_, rfl⟩
 obtain ⟨n3, hn3⟩ : ∃ n, n = List.length (((H ++ [lnkO ([] : List PR.T)]) ++ [monO ([] : List TI.T)]) : Go.Lg.Heap) := ⟨_, rfl⟩
 refine rSq [(0, .y (.one (.mp n1)), (H ++ [lnkO ([] : List PR.T)])), (1, .y (.one (.mp n2)), ((H ++ [lnkO ([] : List PR.T)]) ++ [monO ([] : List TI.T)])), (3, .y (.one (.ptr n3 0)), (((H ++ [lnkO ([] : List PR.T)]) ++ [monO ([] : List TI.T)]) ++ [.obj [.mp n1, .mp n2]]))] [(0, .y (.one (.ptr n3 0)))] (((H ++ [lnkO ([] : List PR.T)]) ++ [monO ([] : List TI.T)]) ++ [.obj [.mp n1, .mp n2]])
   (cast (And.intro (ob_bag_make (P := pg) (A := an) (H := H) (t := 58) (ty := 0) (n := n1) hn1 (by kernel_rfl) rfl) (And.intro (ob_bag_make (P := pg) (A := an) (H := (H ++ [lnkO ([] : List PR.T)])) (t := 59) (ty := 0) (n := n2) hn2 (by kernel_rfl) rfl) (And.intro (ob_box (P := pg) (A := an) (H := ((H ++ [lnkO ([] : List PR.T)]) ++ [monO ([] : List TI.T)])) (t := 61) (ty := 0) (n := n3) (v := .agg [.mp n1, .mp n2]) (cs := [.mp n1, .mp n2]) hn3 (by kernel_rfl) (by kernel_rfl) (by kernel_rfl)) trivial))) (by kernel_rfl)) (by kernel_rfl) ?_
 refine wE ?_
 refine ⟨Or.inr rfl, [.one (.ptr n3 0)], (by kernel_rfl), ?_⟩
 exact ⟨n1, n2, n3, hn1, by rw [hn2]; simp, by rw [hn3]; simp, rfl, (On.pick [0, 1, 2, 3] [] (by kernel_rfl) (On.new' hn3 (.obj [.mp n1, .mp n2]) (On.new' hn2 (monO ([] : List TI.T)) (On.new' hn1 (lnkO ([] : List PR.T)) hs))))⟩
theorem copy_x (R : HP) (H : Go.Lg.Heap) (tt l mo ck ck2 : Nat) (es es2 : Array MapEntry) (L : List PR.T) (M : List TI.T) (hs : On [R, pts tt (.obj [.mp l, .mp mo]), pts l (mapO es ck), pts mo (mapO es2 ck2)] H) (hB : BagOk (L.map enL) es ck) (hB2 : BagOk (M.map enM) es2 ck2) (hnL : L.Nodup) (hnM : Uniq M) : XWp pg an 24 (Try.f24.body.getD .skip) [(0, .y (.one (.ptr tt 0)))] H fun x e9 H9 => (x = .normal ∨ x = .ret) ∧ ∃ ys, (∀ H8, Try.f24.results.toList.mapM (resX pg e9 H8) = some ys) ∧ ∃ n1 n2 n3 D E, D.Perm L ∧ E.Perm M ∧ n1 = H.length ∧ n2 = H.length + 1 ∧ n3 = H.length + 2 ∧ ys = [.one (.ptr n3 0)] ∧ On [R, pts tt (.obj [.mp l, .mp mo]), pts l (mapO es ck), pts mo (mapO es2 ck2), pts n1 (lnkO D), pts n2 (monO E), pts n3 (.obj [.mp n1, .mp n2])] H9 := by
 unfold Try.f24
 show XWp _ _ _ _ [(0, .y (.one (.ptr tt 0)))] H _
 refine XWp.regionSeq [] [(0, .y (.one (.ptr tt 0)))] H
   (cast trivial (by kernel_rfl)) (by kernel_rfl) ?_
 refine XWp.seq ?_
 have hcall1 : Runs pg an 29 [.one (.ptr tt 0)] H [.one (vb true)] H := by
  refine runs_of ?_
  refine Runs.of (fn := Try.f29) Try.func29 rfl (by kernel_rfl) [(0, .y (.one (.ptr tt 0)))] (by kernel_rfl) ?_
  refine rSq [] [(0, .y (.one (.ptr tt 0)))] H
    (cast trivial (by kernel_rfl)) (by kernel_rfl) ?_
  refine rSq [(6, .y (.one (.mp l)), H)] [(2, xb true)] H
    (cast (And.intro (ob_load_ptr (P := pg) (A := an) (H := H) (t := 58) (ty := 0) (id := tt) (off := 0) (n := 1) (cs := [.mp l, .mp mo]) (cs' := [.mp l]) (v := .one (.mp l)) (On.at hs 1 rfl) (by kernel_rfl) (by kernel_rfl) (by kernel_rfl) (by kernel_rfl)) trivial) (by kernel_rfl)) (by kernel_rfl) ?_
  refine wE ?_
  exact ⟨Or.inr rfl, [.one (vb true)], (by kernel_rfl), ⟨rfl, rfl⟩⟩
 refine XWp.regionSeq [(1, xb true, H)] [(0, .y (.one (.ptr tt 0))), (9, xb false)] H
   (cast (And.intro (ob_call (P := pg) (A := an) (H := H) (g := 29) (vals := [.y (.one (.ptr tt 0))]) (xs0 := [.one (.ptr tt 0)]) (res := [.one (vb true)]) (ats := #[]) (ty := 0) (v := xb true) (H' := H) [.tmp 0] (by kernel_rfl) (by kernel_rfl) hcall1 (by kernel_rfl)) trivial) (by kernel_rfl)) (by kernel_rfl) ?_
 refine XWp.condF (by kernel_rfl) ?_
 refine XWp.skip ?_
 obtain ⟨_, H8, hr9, n2, n3, n4, e5, e6, e7, rfl, hs10⟩ := new_x _ (H : Go.Lg.Heap) (On.call [] [0, 1, 2, 3] (by kernel_rfl) hs)
 have hs10 : On [R, pts tt (.obj [.mp l, .mp mo]), pts l (mapO es ck), pts mo (mapO es2 ck2), pts n2 (lnkO ([] : List PR.T)), pts n3 (monO ([] : List TI.T)), pts n4 (.obj [.mp n2, .mp n3])] H8 := On.flat hs10
 refine XWp.regionSeq [(0, .y (.one (.ptr n4 0)), H8)] [(0, .y (.one (.ptr tt 0))), (3, .y (.one (.ptr n4 0)))] H8
   (cast (And.intro (ob_call (P := pg) (A := an) (H := H) (g := 7) (vals := []) (xs0 := []) (res := [.one (.ptr n4 0)]) (ats := #[]) (ty := 0) (v := .y (.one (.ptr n4 0))) (H' := H8) [] (by kernel_rfl) (by kernel_rfl) hr9 (by kernel_rfl)) trivial) (by kernel_rfl)) (by kernel_rfl) ?_
 refine XWp.gen (cs := [R, pts tt (.obj [.mp l, .mp mo]), pts l (mapO es ck), pts mo (mapO es2 ck2), pts n2 (lnkO ([] : List PR.T)), pts n3 (monO ([] : List TI.T)), pts n4 (.obj [.mp n2, .mp n3])]) hs10 ?_
 intro H11 hs12
 refine XWp.seq ?_
 obtain ⟨n13, hn13⟩ : ∃ n, n = List.length (H11 : Go.Lg.Heap) := ⟨_, rfl⟩
 refine XWp.regionSeq [(3, .y (.one (.mp l)), H11), (4, .y (.one (.it n13)), (H11 ++ [iterO l ck #[]]))] [(0, .y (.one (.ptr tt 0))), (3, .y (.one (.ptr n4 0))), (15, .y (.one (.it n13)))] (H11 ++ [iterO l ck #[]])
   (cast (And.intro (ob_load_ptr (P := pg) (A := an) (H := H11) (t := 58) (ty := 0) (id := tt) (off := 0) (n := 1) (cs := [.mp l, .mp mo]) (cs' := [.mp l]) (v := .one (.mp l)) (On.at hs12 1 rfl) (by kernel_rfl) (by kernel_rfl) (by kernel_rfl) (by kernel_rfl)) (And.intro (ob_range (P := pg) (A := an) (H := H11) (t := 58) (ty := 0) (m := l) (n := n13) (ck := ck) (es := es) hn13 (by kernel_rfl) (On.at hs12 2 rfl)) trivial)) (by kernel_rfl)) (by kernel_rfl) ?_
 refine XWp.gen (cs := [R, pts tt (.obj [.mp l, .mp mo]), pts l (mapO es ck), pts mo (mapO es2 ck2), pts n2 (lnkO ([] : List PR.T)), pts n3 (monO ([] : List TI.T)), pts n4 (.obj [.mp n2, .mp n3]), pts n13 (iterO l ck #[])]) (On.new' hn13 (iterO l ck #[]) hs12) ?_
 intro H14 hs15
 refine XWp.block ?_
 refine XWp.loop (T := Go.Lg.Heap × Nat × Array Nat × List PR.T) (fun (t : Go.Lg.Heap × Nat × Array Nat × List PR.T) => match t with | (H17, it, seen, D) => (L.length - D.length : Nat)) (fun (t : Go.Lg.Heap × Nat × Array Nat × List PR.T) => match t with | (H17, it, seen, D) => ([(0, .y (.one (.ptr tt 0))), (3, .y (.one (.ptr n4 0))), (15, .y (.one (.it it)))] : Env)) (fun (t : Go.Lg.Heap × Nat × Array Nat × List PR.T) => match t with | (H17, it, seen, D) => (H17 : Go.Lg.Heap))
   (fun (t : Go.Lg.Heap × Nat × Array Nat × List PR.T) => match t with | (H17, it, seen, D) => (On [R, pts tt (.obj [.mp l, .mp mo]), pts l (mapO es ck), pts mo (mapO es2 ck2), pts n2 (lnkO D), pts n3 (monO ([] : List TI.T)), pts n4 (.obj [.mp n2, .mp n3]), pts it (iterO l ck seen)] H17 ∧ (Went enL es seen D) : Prop)) (H14, n13, #[], []) (by kernel_rfl) (⟨(On.pick [0, 1, 2, 3, 4, 5, 6, 7] [] (by kernel_rfl) hs15), went_nil _ _⟩) ?_
 rintro ⟨H17, it, seen, D⟩ ⟨hs18, hW⟩
 show XWp _ _ _ _ [(0, .y (.one (.ptr tt 0))), (3, .y (.one (.ptr n4 0))), (15, .y (.one (.it it)))] H17 _
 refine XWp.nextE (L := L) (D := D) (eF := [(0, .y (.one (.ptr tt 0))), (3, .y (.one (.ptr n4 0))), (15, .y (.one (.it it))), (17, xb false)]) (eT := [(0, .y (.one (.ptr tt 0))), (3, .y (.one (.ptr n4 0))), (15, .y (.one (.it it))), (17, xb true)]) enL_inj ⟨rfl, rfl, rfl⟩ ⟨rfl, rfl, rfl⟩ rfl (On.at hs18 7 rfl) (On.at hs18 2 rfl) hB hW (by kernel_rfl) (fun _ _ => by kernel_rfl) ?_ ?_
 ·
  intro hp19
  refine XWp.seq ?_
  refine XWp.condF (by kernel_rfl) ?_
  refine XWp.exit ?_
  refine Eq.mpr (if_pos rfl) ?_
  refine XWp.seq ?_
  obtain ⟨n20, hn20⟩ : ∃ n, n = List.length (H17 : Go.Lg.Heap) := ⟨_, rfl⟩
  refine XWp.regionSeq [(3, .y (.one (.mp mo)), H17), (4, .y (.one (.it n20)), (H17 ++ [iterO mo ck2 #[]]))] [(3, .y (.one (.ptr n4 0))), (29, .y (.one (.it n20)))] (H17 ++ [iterO mo ck2 #[]])
    (cast (And.intro (ob_load_ptr (P := pg) (A := an) (H := H17) (t := 59) (ty := 0) (id := tt) (off := 1) (n := 1) (cs := [.mp l, .mp mo]) (cs' := [.mp mo]) (v := .one (.mp mo)) (On.at hs18 1 rfl) (by kernel_rfl) (by kernel_rfl) (by kernel_rfl) (by kernel_rfl)) (And.intro (ob_range (P := pg) (A := an) (H := H17) (t := 59) (ty := 0) (m := mo) (n := n20) (ck := ck2) (es := es2) hn20 (by kernel_rfl) (On.at hs18 3 rfl)) trivial)) (by kernel_rfl)) (by kernel_rfl) ?_
  refine XWp.gen (cs := [R, pts tt (.obj [.mp l, .mp mo]), pts l (mapO es ck), pts mo (mapO es2 ck2), pts n2 (lnkO D), pts n3 (monO ([] : List TI.T)), pts n4 (.obj [.mp n2, .mp n3]), pts it (iterO l ck seen), pts n20 (iterO mo ck2 #[])]) (On.new' hn20 (iterO mo ck2 #[]) hs18) ?_
  intro H21 hs22
  refine XWp.block ?_
  refine XWp.loop (T := Go.Lg.Heap × Nat × Array Nat × List TI.T) (fun (t : Go.Lg.Heap × Nat × Array Nat × List TI.T) => match t with | (H24, it2, seen2, E) => (M.length - E.length : Nat)) (fun (t : Go.Lg.Heap × Nat × Array Nat × List TI.T) => match t with | (H24, it2, seen2, E) => ([(3, .y (.one (.ptr n4 0))), (29, .y (.one (.it it2)))] : Env)) (fun (t : Go.Lg.Heap × Nat × Array Nat × List TI.T) => match t with | (H24, it2, seen2, E) => (H24 : Go.Lg.Heap))
    (fun (t : Go.Lg.Heap × Nat × Array Nat × List TI.T) => match t with | (H24, it2, seen2, E) => (On [R, pts tt (.obj [.mp l, .mp mo]), pts l (mapO es ck), pts mo (mapO es2 ck2), pts n2 (lnkO D), pts n3 (monO E), pts n4 (.obj [.mp n2, .mp n3]), pts it2 (iterO mo ck2 seen2)] H24 ∧ (Went enM es2 seen2 E) : Prop)) (H21, n20, #[], []) (by kernel_rfl) (⟨(On.pick [0, 1, 2, 3, 4, 5, 6, 8] [7] (by kernel_rfl) hs22), went_nil _ _⟩) ?_
  rintro ⟨H24, it2, seen2, E⟩ ⟨hs25, hW2⟩
  show XWp _ _ _ _ [(3, .y (.one (.ptr n4 0))), (29, .y (.one (.it it2)))] H24 _
  refine XWp.nextE (L := M) (D := E) (eF := [(3, .y (.one (.ptr n4 0))), (29, .y (.one (.it it2))), (31, xb false)]) (eT := [(3, .y (.one (.ptr n4 0))), (29, .y (.one (.it it2))), (31, xb true)]) enM_inj ⟨rfl, rfl, rfl⟩ ⟨rfl, rfl, rfl⟩ rfl (On.at hs25 7 rfl) (On.at hs25 3 rfl) hB2 hW2 (by kernel_rfl) (fun _ _ => by kernel_rfl) ?_ ?_
  ·
   intro hp26
   refine XWp.seq ?_
   refine XWp.condF (by kernel_rfl) ?_
   refine XWp.exit ?_
   refine Eq.mpr (if_pos rfl) ?_
   refine XWp.regionSeq [] [(2, .y (.one (.ptr n4 0)))] H24
     (cast trivial (by kernel_rfl)) (by kernel_rfl) ?_
   refine XWp.ret ?_
   refine ⟨Or.inr rfl, [.one (.ptr n4 0)], fun _ => by kernel_rfl, ?_⟩
   exact ⟨n2, n3, n4, D, E, hp19, hp26, e5, e6, e7, rfl, (On.pick [0, 1, 2, 3, 4, 5, 6] [7] (by kernel_rfl) hs25)⟩
  ·
   intro x27 d28 hx29 hd30 he31 hw32 hl33
   refine XWp.gen (cs := [R, pts tt (.obj [.mp l, .mp mo]), pts l (mapO es ck), pts mo (mapO es2 ck2), pts n2 (lnkO D), pts n3 (monO E), pts n4 (.obj [.mp n2, .mp n3]), pts it2 (iterO mo ck2 (Array.push seen2 d28.born))]) (On.put (iterO mo ck2 (Array.push seen2 d28.born)) hs25 7 rfl) ?_
   intro H34 hs35
   have hnd36 := wentM hB2 hnM hw32
   refine XWp.seq ?_
   refine XWp.condT (by kernel_rfl) ?_
   refine XWp.skip ?_
   refine XWp.block ?_
   obtain ⟨n37, hn37⟩ : ∃ n, n = List.length (H34 : Go.Lg.Heap) := ⟨_, rfl⟩
   refine XWp.regionSeq [(0, .tup [.one (vi x27.1), .agg [vi x27.2.1.1, vi x27.2.1.2.1, vi x27.2.2.1.1, vi x27.2.2.1.2.1]], H34), (3, .y (.one (.ptr n37 0)), (H34 ++ [.obj [vi 0, vi 0, vi 0, vi 0]])), (5, .tup [], (List.set (α := O) (H34 ++ [.obj [vi 0, vi 0, vi 0, vi 0]]) n37 (.obj [vi x27.2.1.1, vi x27.2.1.2.1, vi x27.2.2.1.1, vi x27.2.2.1.2.1])))] [(3, .y (.one (.ptr n4 0))), (5, xi x27.1), (6, .y (.one (.ptr n37 0))), (29, .y (.one (.it it2)))] (List.set (α := O) (H34 ++ [.obj [vi 0, vi 0, vi 0, vi 0]]) n37 (.obj [vi x27.2.1.1, vi x27.2.1.2.1, vi x27.2.2.1.1, vi x27.2.2.1.2.1]))
     (cast (And.intro (ob_entry (P := pg) (A := an) (H := H34) (ty := 0) (it := it2) (k := .one (vi x27.1)) (v := .agg [vi x27.2.1.1, vi x27.2.1.2.1, vi x27.2.2.1.1, vi x27.2.2.1.2.1]) (On.at hs35 7 rfl) (On.at hs35 3 rfl) hB2.2.1 hd30 (by rw [← (Prod.mk.inj he31).1]; rfl) (by rw [← (Prod.mk.inj he31).2]; exact ofV_PR x27.2)) (And.intro (ob_alloc (P := pg) (A := an) (H := H34) (t := 72) (ty := 0) (n := n37) (cs := [vi 0, vi 0, vi 0, vi 0]) hn37 (by kernel_rfl)) (And.intro (ob_store_ptr (P := pg) (A := an) (H := (H34 ++ [.obj [vi 0, vi 0, vi 0, vi 0]])) (t := 72) (ty := 0) (id := n37) (off := 0) (cs := [vi 0, vi 0, vi 0, vi 0]) (cs' := [vi x27.2.1.1, vi x27.2.1.2.1, vi x27.2.2.1.1, vi x27.2.2.1.2.1]) (v := .agg [vi x27.2.1.1, vi x27.2.1.2.1, vi x27.2.2.1.1, vi x27.2.2.1.2.1]) (On.at (On.new' hn37 (.obj [vi 0, vi 0, vi 0, vi 0]) hs35) 8 rfl) (by kernel_rfl) (by kernel_rfl) (by kernel_rfl)) trivial))) (by kernel_rfl)) (by kernel_rfl) ?_
   refine XWp.gen (cs := [R, pts tt (.obj [.mp l, .mp mo]), pts l (mapO es ck), pts mo (mapO es2 ck2), pts n2 (lnkO D), pts n3 (monO E), pts n4 (.obj [.mp n2, .mp n3]), pts it2 (iterO mo ck2 (Array.push seen2 d28.born)), pts n37 (.obj [vi x27.2.1.1, vi x27.2.1.2.1, vi x27.2.2.1.1, vi x27.2.2.1.2.1])]) (On.put (.obj [vi x27.2.1.1, vi x27.2.1.2.1, vi x27.2.2.1.1, vi x27.2.2.1.2.1]) (On.new' hn37 (.obj [vi 0, vi 0, vi 0, vi 0]) hs35) 8 rfl) ?_
   intro H38 hs39
   refine XWp.regionK [(3, .y (.one (.mp n3)), H38), (5, .y (.agg [vi x27.2.1.1, vi x27.2.1.2.1, vi x27.2.2.1.1, vi x27.2.2.1.2.1]), H38), (6, .tup [], (List.set (α := O) H38 n3 (monO (mins E x27.1 x27.2))))] [(3, .y (.one (.ptr n4 0))), (29, .y (.one (.it it2)))] (List.set (α := O) H38 n3 (monO (mins E x27.1 x27.2)))
     (cast (And.intro (ob_load_ptr (P := pg) (A := an) (H := H38) (t := 59) (ty := 0) (id := n4) (off := 1) (n := 1) (cs := [.mp n2, .mp n3]) (cs' := [.mp n3]) (v := .one (.mp n3)) (On.at hs39 6 rfl) (by kernel_rfl) (by kernel_rfl) (by kernel_rfl) (by kernel_rfl)) (And.intro (ob_load_ptr (P := pg) (A := an) (H := H38) (t := 72) (ty := 0) (id := n37) (off := 0) (n := 4) (cs := [vi x27.2.1.1, vi x27.2.1.2.1, vi x27.2.2.1.1, vi x27.2.2.1.2.1]) (cs' := [vi x27.2.1.1, vi x27.2.1.2.1, vi x27.2.2.1.1, vi x27.2.2.1.2.1]) (v := .agg [vi x27.2.1.1, vi x27.2.1.2.1, vi x27.2.2.1.1, vi x27.2.2.1.2.1]) (On.at hs39 8 rfl) (by kernel_rfl) (by kernel_rfl) (by kernel_rfl) (by kernel_rfl)) (And.intro (mo_put (A := an) (H := H38) (id := n3) (ms := E) (r := x27.1) (w := x27.2) (On.at hs39 5 rfl) (uq_left hnd36)) trivial))) (by kernel_rfl)) (by kernel_rfl) ?_
   refine wG (cs := [R, pts tt (.obj [.mp l, .mp mo]), pts l (mapO es ck), pts mo (mapO es2 ck2), pts n2 (lnkO D), pts n3 (monO (mins E x27.1 x27.2)), pts n4 (.obj [.mp n2, .mp n3]), pts it2 (iterO mo ck2 (Array.push seen2 d28.born)), pts n37 (.obj [vi x27.2.1.1, vi x27.2.1.2.1, vi x27.2.2.1.1, vi x27.2.2.1.2.1])]) (On.put (monO (mins E x27.1 x27.2)) hs39 5 rfl) ?_
   intro H40 hs41
   refine wK ?_
   exact ⟨(H40, it2, (Array.push seen2 d28.born), (E ++ [x27])), by kernel_rfl, (⟨(On.pick [0, 1, 2, 3, 4, 5, 6, 7] [8] (by kernel_rfl) (On.mono (A' := pts n3 (monO (E ++ [x27]))) 5 rfl (fun _ x => by rw [← (show (mins E x27.1 x27.2) = (E ++ [x27]) from mins_new hnd36)]; exact x) hs41)), hw32⟩), (by show (_ : Nat) < _; simp only [List.length_append, List.length_cons, List.length_nil]; omega)⟩
 ·
  intro x42 d43 hx44 hd45 he46 hw47 hl48
  refine XWp.gen (cs := [R, pts tt (.obj [.mp l, .mp mo]), pts l (mapO es ck), pts mo (mapO es2 ck2), pts n2 (lnkO D), pts n3 (monO ([] : List TI.T)), pts n4 (.obj [.mp n2, .mp n3]), pts it (iterO l ck (Array.push seen d43.born))]) (On.put (iterO l ck (Array.push seen d43.born)) hs18 7 rfl) ?_
  intro H49 hs50
  have hnd51 := wentL hB hnL hw47
  refine XWp.seq ?_
  refine XWp.condT (by kernel_rfl) ?_
  refine XWp.skip ?_
  refine XWp.block ?_
  obtain ⟨n52, hn52⟩ : ∃ n, n = List.length (H49 : Go.Lg.Heap) := ⟨_, rfl⟩
  refine XWp.regionSeq [(0, .tup [.agg [vi x42.1.1, vi x42.1.2.1, vi x42.2.1.1, vi x42.2.1.2.1], .one (vi 1)], H49), (2, .y (.one (.ptr n52 0)), (H49 ++ [.obj [vi 0, vi 0, vi 0, vi 0]])), (3, .tup [], (List.set (α := O) (H49 ++ [.obj [vi 0, vi 0, vi 0, vi 0]]) n52 (.obj [vi x42.1.1, vi x42.1.2.1, vi x42.2.1.1, vi x42.2.1.2.1])))] [(0, .y (.one (.ptr tt 0))), (3, .y (.one (.ptr n4 0))), (4, .y (.one (.ptr n52 0))), (15, .y (.one (.it it)))] (List.set (α := O) (H49 ++ [.obj [vi 0, vi 0, vi 0, vi 0]]) n52 (.obj [vi x42.1.1, vi x42.1.2.1, vi x42.2.1.1, vi x42.2.1.2.1]))
    (cast (And.intro (ob_entry (P := pg) (A := an) (H := H49) (ty := 0) (it := it) (k := .agg [vi x42.1.1, vi x42.1.2.1, vi x42.2.1.1, vi x42.2.1.2.1]) (v := .one (vi 1)) (On.at hs50 7 rfl) (On.at hs50 2 rfl) hB.2.1 hd45 (by rw [← (Prod.mk.inj he46).1]; exact ofV_PR x42) (by rw [← (Prod.mk.inj he46).2]; rfl)) (And.intro (ob_alloc (P := pg) (A := an) (H := H49) (t := 67) (ty := 0) (n := n52) (cs := [vi 0, vi 0, vi 0, vi 0]) hn52 (by kernel_rfl)) (And.intro (ob_store_ptr (P := pg) (A := an) (H := (H49 ++ [.obj [vi 0, vi 0, vi 0, vi 0]])) (t := 67) (ty := 0) (id := n52) (off := 0) (cs := [vi 0, vi 0, vi 0, vi 0]) (cs' := [vi x42.1.1, vi x42.1.2.1, vi x42.2.1.1, vi x42.2.1.2.1]) (v := .agg [vi x42.1.1, vi x42.1.2.1, vi x42.2.1.1, vi x42.2.1.2.1]) (On.at (On.new' hn52 (.obj [vi 0, vi 0, vi 0, vi 0]) hs50) 8 rfl) (by kernel_rfl) (by kernel_rfl) (by kernel_rfl)) trivial))) (by kernel_rfl)) (by kernel_rfl) ?_
  refine XWp.gen (cs := [R, pts tt (.obj [.mp l, .mp mo]), pts l (mapO es ck), pts mo (mapO es2 ck2), pts n2 (lnkO D), pts n3 (monO ([] : List TI.T)), pts n4 (.obj [.mp n2, .mp n3]), pts it (iterO l ck (Array.push seen d43.born)), pts n52 (.obj [vi x42.1.1, vi x42.1.2.1, vi x42.2.1.1, vi x42.2.1.2.1])]) (On.put (.obj [vi x42.1.1, vi x42.1.2.1, vi x42.2.1.1, vi x42.2.1.2.1]) (On.new' hn52 (.obj [vi 0, vi 0, vi 0, vi 0]) hs50) 8 rfl) ?_
  intro H53 hs54
  refine XWp.regionK [(3, .y (.one (.mp n2)), H53), (4, .y (.agg [vi x42.1.1, vi x42.1.2.1, vi x42.2.1.1, vi x42.2.1.2.1]), H53), (5, .tup [], (List.set (α := O) H53 n2 (lnkO (lins D x42))))] [(0, .y (.one (.ptr tt 0))), (3, .y (.one (.ptr n4 0))), (15, .y (.one (.it it)))] (List.set (α := O) H53 n2 (lnkO (lins D x42)))
    (cast (And.intro (ob_load_ptr (P := pg) (A := an) (H := H53) (t := 58) (ty := 0) (id := n4) (off := 0) (n := 1) (cs := [.mp n2, .mp n3]) (cs' := [.mp n2]) (v := .one (.mp n2)) (On.at hs54 6 rfl) (by kernel_rfl) (by kernel_rfl) (by kernel_rfl) (by kernel_rfl)) (And.intro (ob_load_ptr (P := pg) (A := an) (H := H53) (t := 67) (ty := 0) (id := n52) (off := 0) (n := 4) (cs := [vi x42.1.1, vi x42.1.2.1, vi x42.2.1.1, vi x42.2.1.2.1]) (cs' := [vi x42.1.1, vi x42.1.2.1, vi x42.2.1.1, vi x42.2.1.2.1]) (v := .agg [vi x42.1.1, vi x42.1.2.1, vi x42.2.1.1, vi x42.2.1.2.1]) (On.at hs54 8 rfl) (by kernel_rfl) (by kernel_rfl) (by kernel_rfl) (by kernel_rfl)) (And.intro (lk_put (A := an) (H := H53) (id := n2) (es := D) (x := x42) (On.at hs54 4 rfl) (nd_left hnd51)) trivial))) (by kernel_rfl)) (by kernel_rfl) ?_
  refine wG (cs := [R, pts tt (.obj [.mp l, .mp mo]), pts l (mapO es ck), pts mo (mapO es2 ck2), pts n2 (lnkO (lins D x42)), pts n3 (monO ([] : List TI.T)), pts n4 (.obj [.mp n2, .mp n3]), pts it (iterO l ck (Array.push seen d43.born)), pts n52 (.obj [vi x42.1.1, vi x42.1.2.1, vi x42.2.1.1, vi x42.2.1.2.1])]) (On.put (lnkO (lins D x42)) hs54 4 rfl) ?_
  intro H55 hs56
  refine wK ?_
  exact ⟨(H55, it, (Array.push seen d43.born), (D ++ [x42])), by kernel_rfl, (⟨(On.pick [0, 1, 2, 3, 4, 5, 6, 7] [8] (by kernel_rfl) (On.mono (A' := pts n2 (lnkO (D ++ [x42]))) 4 rfl (fun _ x => by rw [← (show (lins D x42) = (D ++ [x42]) from lins_new hnd51)]; exact x) hs56)), hw47⟩), (by show (_ : Nat) < _; simp only [List.length_append, List.length_cons, List.length_nil]; omega)⟩
end Go.Proofs.Ytjhgjbagmkiibaa.E0
end
section
namespace Go.Proofs.Ytjhgjbagmkiibaa
open Go.Lg Go.Sort
set_option maxRecDepth 100000
set_option linter.unusedVariables false
instance : DecidableEq PR.T := inferInstanceAs (DecidableEq ((Int × Int × Unit) × (Int × Int × Unit) × Unit))
def decL1 : Value × Value → Option PR.T
 | (.agg vs, .int .i64 v) => match vs.toList with
  | [.int .i64 a, .int .i64 b, .int .i64 c, .int .i64 d] => if v = 1 then some ((a, (b, ())), ((c, (d, ())), ())) else none
  | _ => none
 | _ => none
def decM1 : Value × Value → Option TI.T
 | (.int .i64 r, .agg vs) => match vs.toList with
  | [.int .i64 a, .int .i64 b, .int .i64 c, .int .i64 d] => some (r, ((a, (b, ())), ((c, (d, ())), ())))
  | _ => none
 | _ => none
theorem decL1_is {e : Value × Value} {x : PR.T} (h : decL1 e = some x) : e = enL x := by
 unfold decL1 at h
 split at h
 ·rename_i vs v
  split at h
  ·rename_i a b c d hv
   split at h
   ·rename_i hv1
    cases h
    subst hv1
    refine Prod.ext (congrArg Value.agg ?_) rfl
    rw [← Array.toArray_toList (xs := vs), hv]
    rfl
   ·cases h
  ·cases h
 ·cases h
theorem decM1_is {e : Value × Value} {x : TI.T} (h : decM1 e = some x) : e = enM x := by
 unfold decM1 at h
 split at h
 ·rename_i r vs
  split at h
  ·rename_i a b c d hv
   cases h
   refine Prod.ext rfl (congrArg Value.agg ?_)
   rw [← Array.toArray_toList (xs := vs), hv]
   rfl
  ·cases h
 ·cases h
theorem decL1_en (x : PR.T) : decL1 (enL x) = some x := by
 obtain ⟨⟨a, b, _⟩, ⟨c, d, _⟩, _⟩ := x
 rfl
theorem decM1_en (x : TI.T) : decM1 (enM x) = some x := by
 obtain ⟨r, ⟨a, b, _⟩, ⟨c, d, _⟩, _⟩ := x
 rfl
theorem decs_is {α β : Type} {g : α → Option β} {en : β → α} (hg : ∀ a b, g a = some b → a = en b) : ∀ {l : List α} {m : List β}, l.mapM g = some m → l = m.map en
 | [], m, h => by simp at h; subst h; rfl
 | a :: l, m, h => by
  rw [List.mapM_cons] at h
  obtain ⟨b, hb, h⟩ := Option.bind_eq_some_iff.1 h
  obtain ⟨m', hm, h⟩ := Option.bind_eq_some_iff.1 h
  cases h
  rw [hg a b hb, decs_is hg hm]; rfl
theorem decs_en {α β : Type} {g : α → Option β} {en : β → α} (hg : ∀ b, g (en b) = some b) : ∀ l : List β, (l.map en).mapM g = some l
 | [] => rfl
 | b :: l => by
  rw [List.map_cons, List.mapM_cons, hg, decs_en hg l]
  rfl
def objAt (H : Heap) (t : Nat) : Option (List C) := match H[t]? with
 | some (.obj cs) => some cs
 | some (.map (.fro cs)) => some cs
 | _ => none
def okTies (L : List PR.T) (M : List TI.T) : Bool := L.all okL && (decide L.Nodup && (decide (M.map (·.1)).Nodup && (decide (L.length + M.length ≤ 3518437208883) && decide (M.length ≤ 3518437208883))))
def bagsAt (H : Heap) (l m : Nat) : Option (List PR.T × List TI.T) := (bagAt H l).bind fun es => (bagAt H m).bind fun ms => (es.mapM decL1).bind fun L => (ms.mapM decM1).bind fun M => if okTies L M = true ∧ l ≠ m then some (L, M) else none
def tiesAt (H : Heap) (t : Nat) : Option (Nat × Nat × List PR.T × List TI.T) := (objAt H t).bind fun cs => match cs with
 | [.mp l, .mp m] => (bagsAt H l m).map fun p => (l, m, p.1, p.2)
 | _ => none
theorem bagAt_is {H : Heap} {l : Nat} {es : List (Value × Value)} (h : bagAt H l = some es) : H[l]? = some (bagO es) := by
 unfold bagAt at h
 split at h
 ·rename_i e; cases h; exact e
 ·cases h
structure TiesIn (H : Heap) (t l m : Nat) (L : List PR.T) (M : List TI.T) : Prop where
 obj : objAt H t = some [.mp l, .mp m]
 lnk : H[l]? = some (lnkO L)
 mon : H[m]? = some (monO M)
 ok : okTies L M = true
 ne : l ≠ m
theorem tiesAt_is {H : Heap} {t l m : Nat} {L : List PR.T} {M : List TI.T} (h : tiesAt H t = some (l, m, L, M)) : TiesIn H t l m L M := by
 unfold tiesAt at h
 obtain ⟨cs, hc, h⟩ := Option.bind_eq_some_iff.1 h
 split at h
 case h_2 => cases h
 rename_i l' m'
 obtain ⟨⟨L', M'⟩, hb, h⟩ := Option.map_eq_some_iff.1 h
 cases h
 unfold bagsAt at hb
 obtain ⟨es, h1, hb⟩ := Option.bind_eq_some_iff.1 hb
 obtain ⟨ms, h2, hb⟩ := Option.bind_eq_some_iff.1 hb
 obtain ⟨L', h3, hb⟩ := Option.bind_eq_some_iff.1 hb
 obtain ⟨M', h4, hb⟩ := Option.bind_eq_some_iff.1 hb
 split at hb
 ·rename_i hok
  cases hb
  exact ⟨hc, by rw [bagAt_is h1, decs_is (fun _ _ => decL1_is) h3], by rw [bagAt_is h2, decs_is (fun _ _ => decM1_is) h4], hok.1, hok.2⟩
 ·cases hb
theorem TiesIn.at {H : Heap} {t l m : Nat} {L : List PR.T} {M : List TI.T} (h : TiesIn H t l m L M) : tiesAt H t = some (l, m, L, M) := by
 unfold tiesAt
 rw [h.obj]
 simp only [Option.bind_some]
 unfold bagsAt
 simp only [bagAt, h.lnk, h.mon, Option.bind_some, decs_en decL1_en, decs_en decM1_en, if_pos (show okTies L M = true ∧ l ≠ m from ⟨h.ok, h.ne⟩), Option.map_some]
def okMon (M : List TI.T) : Bool := decide (M.map (·.1)).Nodup && decide (M.length ≤ 3518437208883)
def monAt (H : Heap) (t : Nat) : Option (Nat × Nat × List TI.T) := (objAt H t).bind fun cs => match cs with
 | [.mp l, .mp m] => (bagAt H m).bind fun ms => (ms.mapM decM1).bind fun M => if okMon M = true then some (l, m, M) else none
 | _ => none
structure MonIn (H : Heap) (t l m : Nat) (M : List TI.T) : Prop where
 obj : objAt H t = some [.mp l, .mp m]
 mon : H[m]? = some (monO M)
 ok : okMon M = true
theorem monAt_is {H : Heap} {t l m : Nat} {M : List TI.T} (h : monAt H t = some (l, m, M)) : MonIn H t l m M := by
 unfold monAt at h
 obtain ⟨cs, hc, h⟩ := Option.bind_eq_some_iff.1 h
 split at h
 case h_2 => cases h
 rename_i l' m'
 obtain ⟨ms, h2, h⟩ := Option.bind_eq_some_iff.1 h
 obtain ⟨M', h4, h⟩ := Option.bind_eq_some_iff.1 h
 split at h
 ·rename_i hok
  cases h
  exact ⟨hc, by rw [bagAt_is h2, decs_is (fun _ _ => decM1_is) h4], hok⟩
 ·cases h
theorem MonIn.at {H : Heap} {t l m : Nat} {M : List TI.T} (h : MonIn H t l m M) : monAt H t = some (l, m, M) := by
 unfold monAt
 rw [h.obj]
 simp only [Option.bind_some, bagAt, h.mon, decs_en decM1_en, if_pos h.ok]
theorem okMon_is {M : List TI.T} (h : okMon M = true) : Uniq M ∧ M.length ≤ 3518437208883 := by
 simp only [okMon, Bool.and_eq_true, decide_eq_true_eq] at h; exact h
theorem okMon_of {M : List TI.T} (h : Uniq M) (h2 : M.length ≤ 3518437208883) : okMon M = true := by
 simp only [okMon, Bool.and_eq_true, decide_eq_true_eq]; exact ⟨h, h2⟩
def retW (s : Sh) (l : List s.T) (H : Heap) : List Y × Heap := if l.isEmpty then ([.one nilC], H) else ([.one (rowC H.length 0 l.length 0 l.length false)], H ++ [rowO s true 0 l])
theorem on_retW {cs : List HP} {H : Heap} {s : Sh} {l : List s.T} (h : On cs H) : ∃ c H', retW s l H = ([.one c], H') ∧ On (cs ++ [ownP s c l]) H' := by
 unfold retW
 cases e : l with
 | nil => exact ⟨_, _, rfl, On.addOwn h⟩
 | cons x l' =>
  refine ⟨_, _, rfl, ?_⟩
  exact On.last (fun _ y => own_row (by simp) (SL_one y)) (On.new' rfl (rowO s true 0 (x :: l')) h)
theorem on_whole {H0 H9 : Heap} {s : Sh} {c : C} {l : List s.T} (h : On [ownP s c l, allBut H0 []] H9) : (∀ (i : Nat) (o : O), H0[i]? = some o → H9[i]? = some o) ∧ ((c = nilC ∧ l = []) ∨ ∃ k, c = rowC k 0 l.length 0 l.length false ∧ l ≠ [] ∧ H0.length ≤ k ∧ H9[k]? = some (rowO s true 0 l)) := by
 rcases own_open h 0 rfl with ⟨rfl, rfl, h2⟩ | ⟨k, rfl, hne, h2⟩
 ·exact ⟨fun i o ho => on_rest (H := H0) (is := []) h2 (by simp) ho, .inl ⟨rfl, rfl⟩⟩
 ·exact ⟨fun i o ho => on_rest (H := H0) (is := []) h2 (by simp) ho, .inr ⟨k, rfl, hne, on_behind (H := H0) (is := []) h2 (by simp), On.at h2 1 rfl⟩⟩
theorem allBut_two {H : Heap} {a b : Nat} {x y : O} (ha : H[a]? = some x) (hb : H[b]? = some y) {h : Frag} (s : SL [allBut H [a, b], pts a x, pts b y] h) : allBut H [] h := by
 obtain ⟨h1, h2, hd, s1, s2, p, h3, h4, hd', s3, s4, q, h5, h6, _, s5, _, r, _⟩ := s
 intro i o _ hi
 by_cases e : i = a
 ·subst e
  rw [ha] at hi; cases hi
  exact s2 _ _ (s3 _ _ q)
 ·by_cases e2 : i = b
  ·subst e2
   rw [hb] at hi; cases hi
   exact s2 _ _ (s4 _ _ (s5 _ _ r))
  ·exact s1 _ _ (p i o (by simp [e, e2]) hi)
theorem wild_row {A : Ann} {f : FuncId} {c0 : Code} {e0 : Env} {H : Heap} {s : Sh} {l : List s.T} {j : Nat} {es : List (Value × Value)} {res : List ResultVar} (hj : H[j]? = some (bagO es))
  (h : ∀ es' ck, BagOk es es' ck → XWp pg A f c0 e0 (H.set j (mapO es' ck)) fun x e9 H9 => (x = .normal ∨ x = .ret) ∧ ∃ ys, (∀ H8, res.mapM (resX pg e9 H8) = some ys) ∧ ∃ c, ys = [.one c] ∧ On [ownP s c l, allBut (H.set j (mapO es' ck)) []] H9) :
  XWp pg A f c0 e0 H fun x e' H' => (x = .normal ∨ x = .ret) ∧ ∃ ys, res.mapM (resX pg e' H') = some ys ∧ Go.Lg.Leaves H ys H' (retW s l H).1 (retW s l H).2 := by
 have hlt := lt_of_get hj
 refine XWp.unbag hj fun es' ck hb => (h es' ck hb).mono ?_
 rintro x e9 H9 ⟨hx, ys, hys, c, rfl, hon⟩
 obtain ⟨h1, h2⟩ := on_whole hon
 have hj9 := h1 j (mapO es' ck) (by simp [hlt])
 refine ⟨hj9, hx, _, hys _, ?_⟩
 have ht : (H9.set j (bagO es)).take H.length = H := take_eq fun i o hi => by
  by_cases e : i = j
  ·subst e
   rw [hj] at hi; cases hi
   simp [lt_of_get hj9]
  ·rw [List.getElem?_set_ne (fun x => e x.symm)]
   exact h1 i o (by rw [List.getElem?_set_ne (fun x => e x.symm)]; exact hi)
 rcases h2 with ⟨rfl, rfl⟩ | ⟨k, rfl, hne, hk, hk2⟩
 ·have := Go.Lg.Leaves.news (H := H) (ys := [.one nilC]) (H' := H9.set j (bagO es)) [] (by simpa using ht) rfl rfl
  rw [List.append_nil] at this
  exact this
 ·have e1 : l.isEmpty = false := by simpa using hne
  unfold retW
  rw [e1]
  refine Go.Lg.Leaves.row (by simpa using hk) ?_ ht rfl
  rw [List.getElem?_set_ne ?_]
  ·exact hk2
  ·rintro rfl
   rw [List.length_set] at hk
   omega
end Go.Proofs.Ytjhgjbagmkiibaa
end
section
namespace Go.Proofs.Ytjhgjbagmkiibaa
open Go.Lg Go.Sort
set_option maxRecDepth 100000
set_option linter.unusedVariables false
set_option maxHeartbeats 4000000
def pidC (a : PD.T) : List C := [vi a.1, vi a.2.1]
def spLinks (args : List Y) (H : Heap) : Option (List Y × Heap) := match args with
 | [.one (.ptr t off), .agg [.sc (.int .i64 n), .sc (.int .i64 g)]] => if off = 0 then (tiesAt H t).map fun p => retW PD (isort ltD (lnkOf p.2.2.1 ((n, (g, ())) : PD.T))) H else none
 | _ => none
def qOf (H : Heap) (g : Nat) (cap : List C) : Option (PR.T → Bool) := match cap with
 | [] => if g = 40 then some q40 else none
 | [.ptr p off] => if off = 0 then (objAt H p).bind fun cs => match cs with
  | [.sc (.int .i64 n), .sc (.int .i64 k)] => if g = 35 then some (q35 ((n, (k, ())) : PD.T)) else if g = 36 then some (q36 ((n, (k, ())) : PD.T)) else if g = 37 then some (q37 ((n, (k, ())) : PD.T)) else none
  | _ => none
  else none
 | _ => none
def spRefs (args : List Y) (H : Heap) : Option (List Y × Heap) := match args with
 | [.one (.ptr t off), .one (.fn (.func g) [] cap)] => if off = 0 then (monAt H t).bind fun p => (qOf H g cap).map fun q => retW NI (isort ltI (refOf q p.2.2)) H else none
 | _ => none
def spCopy (args : List Y) (H : Heap) : Option (List Y × Heap) := match args with
 | [.one (.ptr t off)] => if off = 0 then (tiesAt H t).map fun p => ([.one (.ptr (H.length + 2) 0)], H ++ [lnkO p.2.2.1, monO p.2.2.2, .obj [.mp H.length, .mp (H.length + 1)]]) else none
 | _ => none
theorem objAt_obj {H : Heap} (hF : ∀ (i : Nat) (cs : List C), H[i]? ≠ some (O.map (MapV.fro cs))) {t : Nat} {cs : List C} (h : objAt H t = some cs) : H[t]? = some (.obj cs) := by
 unfold objAt at h
 split at h
 ·rename_i e; cases h; exact e
 ·rename_i e; exact absurd e (hF _ _)
 ·cases h
theorem okTies_is {L : List PR.T} {M : List TI.T} (h : okTies L M = true) : L.all okL = true ∧ L.Nodup ∧ Uniq M ∧ L.length ≤ 3518437208883 ∧ M.length ≤ 3518437208883 := by
 simp only [okTies, Bool.and_eq_true, decide_eq_true_eq] at h
 have := h.2.2.2.1
 exact ⟨h.1, h.2.1, h.2.2.1, by omega, h.2.2.2.2⟩
theorem okTies_sum {L : List PR.T} {M : List TI.T} (h : okTies L M = true) : L.length + M.length ≤ 3518437208883 := by
 simp only [okTies, Bool.and_eq_true, decide_eq_true_eq] at h
 exact h.2.2.2.1
theorem okTies_of {L : List PR.T} {M : List TI.T} (h1 : L.all okL = true) (h2 : L.Nodup) (h3 : Uniq M) (h4 : L.length + M.length ≤ 3518437208883) : okTies L M = true := by
 simp only [okTies, Bool.and_eq_true, decide_eq_true_eq]
 exact ⟨h1, h2, h3, h4, by omega⟩
theorem links_ok : SpOk pg 10 spLinks := by
 refine SpOk.of_code (A := E0.an) (c := Try.f10.body.getD .skip) E0.pok E0.aok Try.func10 rfl (by kernel_rfl) ?_
 intro args H rs H1 hF hsp
 unfold spLinks at hsp
 split at hsp
 case h_2 => cases hsp
 rename_i t off n g
 split at hsp
 case isFalse => cases hsp
 rename_i h0; subst h0
 obtain ⟨⟨l, mo, L, M⟩, hT, hsp⟩ := Option.map_eq_some_iff.1 hsp
 have T := tiesAt_is hT
 have ho := objAt_obj hF T.obj
 obtain ⟨o1, o2, o3, o4, o5⟩ := okTies_is T.ok
 have hne : l ≠ t := by
  rintro rfl
  have := T.lnk
  rw [ho] at this; cases this
 refine ⟨Nat.le_of_ble_eq_true (by kernel_rfl), ?_⟩
 have := wild_row (A := E0.an) (f := 10) (c0 := Try.f10.body.getD .skip) (e0 := [(0, .y (.one (.ptr t 0))), (1, .y (.agg [vi n, vi g]))]) (s := PD) (l := isort ltD (lnkOf L ((n, (g, ())) : PD.T))) (res := Try.f10.results.toList) T.lnk fun es ck hb => ?_
 ·rw [hsp] at this
  exact this
 ·have hl : (H.set l (mapO es ck))[l]? = some (mapO es ck) := by simp [lt_of_get T.lnk]
  have ht : (H.set l (mapO es ck))[t]? = some (.obj [.mp l, .mp mo]) := by rw [List.getElem?_set_ne hne]; exact ho
  refine (E0.links_x (allBut (H.set l (mapO es ck)) [t, l]) _ t l mo ck es L ((n, (g, ())) : PD.T) (on_allBut (is := [t, l]) (os := [.obj [.mp l, .mp mo], mapO es ck]) (by simp [hne.symm]) rfl (by
   intro p hp
   simp only [List.zip_cons_cons, List.zip_nil_right, List.mem_cons, List.not_mem_nil, or_false] at hp
   rcases hp with rfl | rfl
   ·exact ht
   ·exact hl)) hb o1 o4).mono ?_
  rintro x e H9 ⟨hx, ys, hys, c, rfl, hon⟩
  exact ⟨hx, _, hys, c, rfl, On.shut (cs := [allBut (H.set l (mapO es ck)) [t, l], pts t (.obj [.mp l, .mp mo]), pts l (mapO es ck), ownP PD c (isort ltD (lnkOf L ((n, (g, ())) : PD.T)))]) [0, 1, 2] [3] (by kernel_rfl) (fun _ x => allBut_two ht hl x) hon⟩
theorem allBut_three {H : Heap} {a b c : Nat} {x y z : O} (ha : H[a]? = some x) (hb : H[b]? = some y) (hc : H[c]? = some z) {h : Frag} (s : SL [allBut H [a, b, c], pts a x, pts b y, pts c z] h) : allBut H [] h := by
 obtain ⟨h1, h2, hd, s1, s2, p, h3, h4, hd', s3, s4, q, h5, h6, _, s5, s6, r, h7, h8, _, s7, _, u, _⟩ := s
 intro i o _ hi
 by_cases e : i = a
 ·subst e
  rw [ha] at hi; cases hi
  exact s2 _ _ (s3 _ _ q)
 ·by_cases e2 : i = b
  ·subst e2
   rw [hb] at hi; cases hi
   exact s2 _ _ (s4 _ _ (s5 _ _ r))
  ·by_cases e3 : i = c
   ·subst e3
    rw [hc] at hi; cases hi
    exact s2 _ _ (s4 _ _ (s6 _ _ (s7 _ _ u)))
   ·exact s1 _ _ (p i o (by simp [e, e2, e3]) hi)
theorem refs_ok : SpOk pg 34 spRefs := by
 refine SpOk.of_code (A := E0.an) (c := Try.f34.body.getD .skip) E0.pok E0.aok Try.func34 rfl (by kernel_rfl) ?_
 intro args H rs H1 hF hsp
 unfold spRefs at hsp
 split at hsp
 case h_2 => cases hsp
 rename_i t off g cap
 split at hsp
 case isFalse => cases hsp
 rename_i h0; subst h0
 obtain ⟨⟨l, mo, M⟩, hT, hsp⟩ := Option.bind_eq_some_iff.1 hsp
 obtain ⟨q, hq, hsp⟩ := Option.map_eq_some_iff.1 hsp
 have T := monAt_is hT
 have ho := objAt_obj hF T.obj
 obtain ⟨o3, o5⟩ := okMon_is T.ok
 have hne : mo ≠ t := by
  rintro rfl
  have := T.mon
  rw [ho] at this; cases this
 refine ⟨Nat.le_of_ble_eq_true (by kernel_rfl), ?_⟩
 have main := fun h => wild_row (A := E0.an) (f := 34) (c0 := Try.f34.body.getD .skip) (e0 := [(0, .y (.one (.ptr t 0))), (1, .y (.one (.fn (.func g) [] cap)))]) (s := NI) (l := isort ltI (refOf q M)) (res := Try.f34.results.toList) T.mon h
 rw [hsp] at main
 refine main fun es ck hb => ?_
 have hm : (H.set mo (mapO es ck))[mo]? = some (mapO es ck) := by simp [lt_of_get T.mon]
 have ht : (H.set mo (mapO es ck))[t]? = some (.obj [.mp l, .mp mo]) := by rw [List.getElem?_set_ne hne]; exact ho
 unfold qOf at hq
 split at hq
 ·split at hq
  case isFalse => cases hq
  rename_i hg; subst hg
  cases hq
  refine (E0.refs_40 (allBut (H.set mo (mapO es ck)) [t, mo]) _ t l mo ck es M (on_allBut (is := [t, mo]) (os := [.obj [.mp l, .mp mo], mapO es ck]) (by simp [hne.symm]) rfl (by
   intro p hp
   simp only [List.zip_cons_cons, List.zip_nil_right, List.mem_cons, List.not_mem_nil, or_false] at hp
   rcases hp with rfl | rfl
   ·exact ht
   ·exact hm)) hb o5).mono ?_
  rintro x e H9 ⟨hx, ys, hys, c, rfl, hon⟩
  exact ⟨hx, _, hys, c, rfl, On.shut (cs := [allBut (H.set mo (mapO es ck)) [t, mo], pts t (.obj [.mp l, .mp mo]), pts mo (mapO es ck), ownP NI c (isort ltI (refOf q40 M))]) [0, 1, 2] [3] (by kernel_rfl) (fun _ x => allBut_two ht hm x) hon⟩
 ·rename_i p off _
  split at hq
  case isFalse => cases hq
  rename_i h0; subst h0
  obtain ⟨cs, hc, hq2⟩ := Option.bind_eq_some_iff.1 hq
  split at hq2
  case h_2 => cases hq2
  rename_i n k
  have hpo := objAt_obj hF hc
  have hne2 : mo ≠ p := by
   rintro rfl
   have := T.mon
   rw [hpo] at this; cases this
  have hne3 : t ≠ p := by
   rintro rfl
   rw [hpo] at ho; cases ho
  have hp : (H.set mo (mapO es ck))[p]? = some (.obj [vi n, vi k]) := by rw [List.getElem?_set_ne hne2]; exact hpo
  have hon0 : On [allBut (H.set mo (mapO es ck)) [t, mo, p], pts t (.obj [.mp l, .mp mo]), pts mo (mapO es ck), pts p (.obj [vi n, vi k])] (H.set mo (mapO es ck)) := on_allBut (is := [t, mo, p]) (os := [.obj [.mp l, .mp mo], mapO es ck, .obj [vi n, vi k]]) (by simp [hne.symm, hne2, hne3]) rfl (by
   intro p hp
   simp only [List.zip_cons_cons, List.zip_nil_right, List.mem_cons, List.not_mem_nil, or_false] at hp
   rcases hp with rfl | rfl | rfl
   ·exact ht
   ·exact hm
   ·assumption)
  split at hq2
  ·rename_i hg; subst hg
   cases hq2
   refine (E0.refs_35 _ _ t l mo ck es M p ((n, (k, ())) : PD.T) hon0 hb o5).mono ?_
   rintro x e H9 ⟨hx, ys, hys, c, rfl, hon⟩
   exact ⟨hx, _, hys, c, rfl, On.shut (cs := [allBut (H.set mo (mapO es ck)) [t, mo, p], pts t (.obj [.mp l, .mp mo]), pts mo (mapO es ck), pts p (.obj [vi n, vi k]), ownP NI c (isort ltI (refOf (q35 ((n, (k, ())) : PD.T)) M))]) [0, 1, 2, 3] [4] (by kernel_rfl) (fun _ x => allBut_three ht hm hp x) hon⟩
  split at hq2
  ·rename_i hg; subst hg
   cases hq2
   refine (E0.refs_36 _ _ t l mo ck es M p ((n, (k, ())) : PD.T) hon0 hb o5).mono ?_
   rintro x e H9 ⟨hx, ys, hys, c, rfl, hon⟩
   exact ⟨hx, _, hys, c, rfl, On.shut (cs := [allBut (H.set mo (mapO es ck)) [t, mo, p], pts t (.obj [.mp l, .mp mo]), pts mo (mapO es ck), pts p (.obj [vi n, vi k]), ownP NI c (isort ltI (refOf (q36 ((n, (k, ())) : PD.T)) M))]) [0, 1, 2, 3] [4] (by kernel_rfl) (fun _ x => allBut_three ht hm hp x) hon⟩
  split at hq2
  ·rename_i hg; subst hg
   cases hq2
   refine (E0.refs_37 _ _ t l mo ck es M p ((n, (k, ())) : PD.T) hon0 hb o5).mono ?_
   rintro x e H9 ⟨hx, ys, hys, c, rfl, hon⟩
   exact ⟨hx, _, hys, c, rfl, On.shut (cs := [allBut (H.set mo (mapO es ck)) [t, mo, p], pts t (.obj [.mp l, .mp mo]), pts mo (mapO es ck), pts p (.obj [vi n, vi k]), ownP NI c (isort ltI (refOf (q37 ((n, (k, ())) : PD.T)) M))]) [0, 1, 2, 3] [4] (by kernel_rfl) (fun _ x => allBut_three ht hm hp x) hon⟩
  ·cases hq2
 ·cases hq
end Go.Proofs.Ytjhgjbagmkiibaa
end
section
namespace Go.Proofs.Ytjhgjbagmkiibaa
open Go.Lg Go.Sort
set_option maxRecDepth 100000
set_option linter.unusedVariables false
set_option maxHeartbeats 4000000
theorem take3 {F H : Heap} {a b c : O} (h : ∀ (i : Nat) (o : O), H[i]? = some o → F[i]? = some o) (ha : F[H.length]? = some a) (hb : F[H.length + 1]? = some b) (hc : F[H.length + 2]? = some c) : F.take (H.length + [a, b, c].length) = H ++ [a, b, c] := by
 apply List.ext_getElem?
 intro i
 show (F.take (H.length + 3))[i]? = _
 rw [List.getElem?_take]
 by_cases h1 : i < H.length
 ·rw [if_pos (by omega), List.getElem?_append_left h1, List.getElem?_eq_getElem h1]
  exact h i _ (List.getElem?_eq_getElem h1)
 ·rw [List.getElem?_append_right (by omega)]
  by_cases h2 : i = H.length
  ·subst h2; rw [if_pos (by omega), ha, Nat.sub_self]; rfl
  ·by_cases h3 : i = H.length + 1
   ·subst h3; rw [if_pos (by omega), hb, show H.length + 1 - H.length = 1 by omega]; rfl
   ·by_cases h4 : i = H.length + 2
    ·subst h4; rw [if_pos (by omega), hc, show H.length + 2 - H.length = 2 by omega]; rfl
    ·rw [if_neg (by omega)]
     rw [List.getElem?_eq_none (by simp; omega)]
theorem copy_ok : SpOk pg 24 spCopy := by
 refine SpOk.of_code (A := E0.an) (c := Try.f24.body.getD .skip) E0.pok E0.aok Try.func24 rfl (by kernel_rfl) ?_
 intro args H rs H1 hF hsp
 unfold spCopy at hsp
 split at hsp
 case h_2 => cases hsp
 rename_i t off
 split at hsp
 case isFalse => cases hsp
 rename_i h0; subst h0
 obtain ⟨⟨l, mo, L, M⟩, hT, hsp⟩ := Option.map_eq_some_iff.1 hsp
 cases hsp
 have T := tiesAt_is hT
 have ho := objAt_obj hF T.obj
 obtain ⟨o1, o2, o3, o4, o5⟩ := okTies_is T.ok
 have hne : l ≠ t := by
  rintro rfl
  have := T.lnk
  rw [ho] at this; cases this
 have hne2 : mo ≠ t := by
  rintro rfl
  have := T.mon
  rw [ho] at this; cases this
 refine ⟨Nat.le_of_ble_eq_true (by kernel_rfl), ?_⟩
 have hlt := lt_of_get T.lnk
 have hmt := lt_of_get T.mon
 have htt := lt_of_get ho
 have hlm : l ≠ mo := T.ne
 refine XWp.rebag H.length (XWp.rebag (H.length + 1) ?_)
 refine XWp.unbag T.lnk fun es ck hb => ?_
 refine XWp.unbag (id := mo) (es := M.map enM) (by rw [List.getElem?_set_ne hlm]; exact T.mon) fun es2 ck2 hb2 => ?_
 have hl : ((H.set l (mapO es ck)).set mo (mapO es2 ck2))[l]? = some (mapO es ck) := by rw [List.getElem?_set_ne (Ne.symm hlm)]; simp [hlt]
 have hm : ((H.set l (mapO es ck)).set mo (mapO es2 ck2))[mo]? = some (mapO es2 ck2) := by simp [hmt]
 have ht : ((H.set l (mapO es ck)).set mo (mapO es2 ck2))[t]? = some (.obj [.mp l, .mp mo]) := by rw [List.getElem?_set_ne hne2, List.getElem?_set_ne hne]; exact ho
 refine (E0.copy_x (allBut ((H.set l (mapO es ck)).set mo (mapO es2 ck2)) [t, l, mo]) _ t l mo ck ck2 es es2 L M (on_allBut (is := [t, l, mo]) (os := [.obj [.mp l, .mp mo], mapO es ck, mapO es2 ck2]) (by simp [hne.symm, hne2.symm, hlm]) rfl (by
  intro p hp
  simp only [List.zip_cons_cons, List.zip_nil_right, List.mem_cons, List.not_mem_nil, or_false] at hp
  rcases hp with rfl | rfl | rfl
  ·exact ht
  ·exact hl
  ·exact hm)) hb hb2 o2 o3).mono ?_
 rintro x e H9 ⟨hx, ys, hys, n1, n2, n3, D, E, hD, hE, e1, e2, e3, rfl, hon⟩
 simp only [List.length_set] at e1 e2 e3
 subst e1; subst e2; subst e3
 have a1 := On.at hon 1 rfl
 have a2 := On.at hon 2 rfl
 have a3 := On.at hon 3 rfl
 have a4 := On.at hon 4 rfl
 have a5 := On.at hon 5 rfl
 have a6 := On.at hon 6 rfl
 have rest : ∀ (i : Nat) (o : O), i ≠ t → i ≠ l → i ≠ mo → H[i]? = some o → H9[i]? = some o := fun i o h1 h2 h3 hi =>
  on_rest (H := (H.set l (mapO es ck)).set mo (mapO es2 ck2)) (is := [t, l, mo]) hon (by simp [h1, h2, h3]) (by rw [List.getElem?_set_ne (Ne.symm h3), List.getElem?_set_ne (Ne.symm h2)]; exact hi)
 have l5 := lt_of_get a6
 refine ⟨a3, by rw [List.getElem?_set_ne (Ne.symm hlm)]; exact a2, E.map enM, M.map enM, by
  rw [List.getElem?_set_ne (by omega), List.getElem?_set_ne (by omega)]; exact a5, hE.map _, D.map enL, L.map enL, by
  rw [List.getElem?_set_ne (by omega), List.getElem?_set_ne (by omega), List.getElem?_set_ne (by omega)]; exact a4, hD.map _, hx, _, hys _, ?_⟩
 refine Go.Lg.Leaves.news [lnkO L, monO M, .obj [.mp H.length, .mp (H.length + 1)]] (take3 (fun i o hi => ?_) ?_ ?_ ?_) (by simp [Y.cells, C.inH]) (by simp [O.inH, C.inH])
 ·have hil := lt_of_get hi
  rw [List.getElem?_set_ne (by omega), List.getElem?_set_ne (by omega)]
  by_cases h1 : i = l
  ·subst h1
   rw [List.getElem?_set_self (by simp; omega), ← T.lnk, hi]
  ·rw [List.getElem?_set_ne (Ne.symm h1)]
   by_cases h2 : i = mo
   ·subst h2
    rw [List.getElem?_set_self (by omega), ← T.mon, hi]
   ·rw [List.getElem?_set_ne (Ne.symm h2)]
    by_cases h3 : i = t
    ·subst h3
     rw [a1, ← ho, hi]
    ·exact rest i o h3 h1 h2 hi
 ·rw [List.getElem?_set_self (by simp; omega)]
 ·rw [List.getElem?_set_ne (by omega), List.getElem?_set_self (by simp; omega)]
 ·rw [List.getElem?_set_ne (by omega), List.getElem?_set_ne (by omega), List.getElem?_set_ne (by omega), List.getElem?_set_ne (by omega)]
  exact a6
section
variable {R : Nat → Option O} {n0 : Nat} {H1 H2 : Heap}
theorem objAt_hid (hh : Hid R n0 H1 H2) {t : Nat} {cs : List C} (h : objAt H1 t = some cs) : objAt H2 t = some cs := by
 unfold objAt at h
 split at h
 ·rename_i e; cases h; unfold objAt; rw [hh.rle.obj e]
 ·rename_i e
  cases h
  unfold objAt
  rcases hh.rle.fro e with e | e <;> rw [e]
 ·cases h
theorem bagAt_hid (hh : Hid R n0 H1 H2) {t : Nat} {es : List (Value × Value)} (h : bagAt H1 t = some es) : bagAt H2 t = some es := by
 have := hh.rle.map (bagAt_is h) (by simp) (by simp)
 unfold bagAt
 rw [this]
theorem tiesAt_hid (hh : Hid R n0 H1 H2) {t : Nat} {p : Nat × Nat × List PR.T × List TI.T} (h : tiesAt H1 t = some p) : tiesAt H2 t = some p := by
 obtain ⟨l, m, L, M⟩ := p
 have T := tiesAt_is h
 refine TiesIn.at ⟨objAt_hid hh T.obj, bagAt_is (bagAt_hid hh ?_), bagAt_is (bagAt_hid hh ?_), T.ok, T.ne⟩
 ·unfold bagAt; rw [T.lnk]
 ·unfold bagAt; rw [T.mon]
theorem monAt_hid (hh : Hid R n0 H1 H2) {t : Nat} {p : Nat × Nat × List TI.T} (h : monAt H1 t = some p) : monAt H2 t = some p := by
 obtain ⟨l, m, M⟩ := p
 have T := monAt_is h
 refine MonIn.at ⟨objAt_hid hh T.obj, bagAt_is (bagAt_hid hh ?_), T.ok⟩
 unfold bagAt; rw [T.mon]
theorem retW_hid (hh : Hid R n0 H1 H2) (s : Sh) (l : List s.T) : Hids R n0 (retW s l H1) (some (retW s l H2)) := by
 unfold retW
 cases h : l.isEmpty with
 | true => exact ⟨_, rfl, hh⟩
 | false => exact ⟨_, by rw [hh.len]; rfl, hh.app _⟩
end
theorem links_hid : SpHid spLinks := by
 intro args H1 r h R n0 H2 hh
 unfold spLinks at h ⊢
 split at h
 case h_2 => cases h
 split at h
 case isFalse => cases h
 rename_i h0
 rw [if_pos h0]
 obtain ⟨p, hT, h⟩ := Option.map_eq_some_iff.1 h
 cases h
 rw [tiesAt_hid hh hT]
 exact retW_hid hh _ _
theorem refs_hid : SpHid spRefs := by
 intro args H1 r h R n0 H2 hh
 unfold spRefs at h ⊢
 split at h
 case h_2 => cases h
 split at h
 case isFalse => cases h
 rename_i g cap h0
 rw [if_pos h0]
 obtain ⟨p, hT, h⟩ := Option.bind_eq_some_iff.1 h
 obtain ⟨q, hq, h⟩ := Option.map_eq_some_iff.1 h
 cases h
 rw [monAt_hid hh hT]
 have : qOf H2 g cap = some q := by
  unfold qOf at hq ⊢
  split at hq
  ·exact hq
  ·split at hq
   case isFalse => cases hq
   rename_i h1
   obtain ⟨cs, hc, hq2⟩ := Option.bind_eq_some_iff.1 hq
   rw [if_pos h1, objAt_hid hh hc]
   exact hq2
  ·cases hq
 simp only [Option.bind_some, this, Option.map_some]
 exact retW_hid hh _ _
theorem copy_hid : SpHid spCopy := by
 intro args H1 r h R n0 H2 hh
 unfold spCopy at h ⊢
 split at h
 case h_2 => cases h
 split at h
 case isFalse => cases h
 rename_i h0
 rw [if_pos h0]
 obtain ⟨p, hT, h⟩ := Option.map_eq_some_iff.1 h
 cases h
 rw [tiesAt_hid hh hT]
 refine ⟨_, by rw [hh.len]; rfl, ?_⟩
 have := ((hh.app (lnkO p.2.2.1)).app (monO p.2.2.2)).app (.obj [.mp H1.length, .mp (H1.length + 1)])
 simp only [List.append_assoc, List.cons_append, List.nil_append] at this
 rw [hh.len] at this ⊢
 exact this
end Go.Proofs.Ytjhgjbagmkiibaa
end
section
namespace Go.Proofs.Ytjhgjbagmkiibaa
open Go.Lg Go.Sort
set_option maxRecDepth 100000
set_option linter.unusedVariables false
theorem on_ne {cs : List HP} {H : Heap} {a b : Nat} {x y : O} (h : On (pts a x :: pts b y :: cs) H) : a ≠ b := by
 obtain ⟨h1, h2, hd, s1, s2, p, h3, h4, _, s3, _, q, _⟩ := h
 rintro rfl
 have := s3 _ _ q
 rcases hd a with e | e
 ·rw [show h1 a = some x from p] at e; cases e
 ·rw [this] at e; cases e
theorem own_cells {s : Sh} {cs : List HP} {H : Heap} {c : C} {l : List s.T} (hs : On cs H) (j : Nat) (hj : cs[j]? = some (ownP s c l)) : slCells H s.cells c = some (l.flatMap (enc s), l.length, true) :=
 items_cells (On.mono (A' := itemsP s c l) j hj (fun _ x => own_items x) hs) j (by rw [List.getElem?_set_self (List.getElem?_eq_some_iff.1 hj).1])
section
variable {A : Ann}
theorem refs_c (hm : A.may 34 = false) (hs : A.spec 34 = some spRefs) (g : Nat) (q : PR.T → Bool) (R : HP) (H : Heap) (tt l mo p : Nat) (M : List TI.T) (a : PD.T) (h : On [R, pts tt (.obj [.mp l, .mp mo]), pts mo (monO M), pts p (.obj [vi a.1, vi a.2.1])] H)
  (hq : ∀ H, objAt H p = some [vi a.1, vi a.2.1] → qOf H g [.ptr p 0] = some q) (hU : Uniq M) (hn : M.length ≤ 3518437208883) :
  ∃ rs H', Runs pg A 34 [.one (.ptr tt 0), .one (.fn (.func g) [] [.ptr p 0])] H rs H' ∧ ∃ c, rs = [.one c] ∧ On [R, pts tt (.obj [.mp l, .mp mo]), pts mo (monO M), pts p (.obj [vi a.1, vi a.2.1]), ownP NI c (isort ltI (refOf q M))] H' := by
 obtain ⟨c, H', e, h2⟩ := on_retW (s := NI) (l := isort ltI (refOf q M)) h
 refine ⟨_, _, Runs.spec hm hs ?_, c, rfl, h2⟩
 have T : MonIn H tt l mo M := ⟨by unfold objAt; rw [On.at h 1 rfl], On.at h 2 rfl, okMon_of hU hn⟩
 unfold spRefs
 simp only [if_true, T.at, Option.bind_some]
 rw [hq H (by unfold objAt; rw [On.at h 3 rfl]), Option.map_some, e]
theorem refs40_c (hm : A.may 34 = false) (hs : A.spec 34 = some spRefs) (R : HP) (H : Heap) (tt l mo : Nat) (M : List TI.T) (h : On [R, pts tt (.obj [.mp l, .mp mo]), pts mo (monO M)] H) (hU : Uniq M) (hn : M.length ≤ 3518437208883) :
  ∃ rs H', Runs pg A 34 [.one (.ptr tt 0), .one (.fn (.func 40) [] [])] H rs H' ∧ ∃ c, rs = [.one c] ∧ On [R, pts tt (.obj [.mp l, .mp mo]), pts mo (monO M), ownP NI c (isort ltI (refOf q40 M))] H' := by
 obtain ⟨c, H', e, h2⟩ := on_retW (s := NI) (l := isort ltI (refOf q40 M)) h
 refine ⟨_, _, Runs.spec hm hs ?_, c, rfl, h2⟩
 have T : MonIn H tt l mo M := ⟨by unfold objAt; rw [On.at h 1 rfl], On.at h 2 rfl, okMon_of hU hn⟩
 unfold spRefs
 simp only [if_true, T.at, Option.bind_some]
 rw [show qOf H 40 [] = some q40 from rfl, Option.map_some, e]
theorem q35_of {p : Nat} {a : PD.T} (H : Heap) (h : objAt H p = some [vi a.1, vi a.2.1]) : qOf H 35 [.ptr p 0] = some (q35 a) := by unfold qOf; simp only [if_true, h, Option.bind_some]
theorem q36_of {p : Nat} {a : PD.T} (H : Heap) (h : objAt H p = some [vi a.1, vi a.2.1]) : qOf H 36 [.ptr p 0] = some (q36 a) := by unfold qOf; simp only [if_true, h, Option.bind_some]; rfl
theorem q37_of {p : Nat} {a : PD.T} (H : Heap) (h : objAt H p = some [vi a.1, vi a.2.1]) : qOf H 37 [.ptr p 0] = some (q37 a) := by unfold qOf; simp only [if_true, h, Option.bind_some]; rfl
theorem links_c (hm : A.may 10 = false) (hs : A.spec 10 = some spLinks) (R : HP) (H : Heap) (tt l mo : Nat) (L : List PR.T) (M : List TI.T) (a : PD.T) (h : On [R, pts tt (.obj [.mp l, .mp mo]), pts l (lnkO L), pts mo (monO M)] H) (hok : okTies L M = true) :
  ∃ rs H', Runs pg A 10 [.one (.ptr tt 0), .agg [vi a.1, vi a.2.1]] H rs H' ∧ ∃ c, rs = [.one c] ∧ On [R, pts tt (.obj [.mp l, .mp mo]), pts l (lnkO L), pts mo (monO M), ownP PD c (isort ltD (lnkOf L a))] H' := by
 obtain ⟨c, H', e, h2⟩ := on_retW (s := PD) (l := isort ltD (lnkOf L a)) h
 refine ⟨_, _, Runs.spec hm hs ?_, c, rfl, h2⟩
 have T : TiesIn H tt l mo L M := ⟨by unfold objAt; rw [On.at h 1 rfl], On.at h 2 rfl, On.at h 3 rfl, hok, on_ne (On.pick [2, 3, 1, 0] [] (by kernel_rfl) h)⟩
 unfold spLinks
 simp only [if_true, T.at, Option.map_some]
 rw [← e]
theorem copy_c (hm : A.may 24 = false) (hs : A.spec 24 = some spCopy) (R : HP) (H : Heap) (tt l mo : Nat) (L : List PR.T) (M : List TI.T) (h : On [R, pts tt (.obj [.mp l, .mp mo]), pts l (lnkO L), pts mo (monO M)] H) (hok : okTies L M = true) :
  ∃ rs H', Runs pg A 24 [.one (.ptr tt 0)] H rs H' ∧ ∃ n1 n2 n3, rs = [.one (.ptr n3 0)] ∧ On [R, pts tt (.obj [.mp l, .mp mo]), pts l (lnkO L), pts mo (monO M), pts n1 (lnkO L), pts n2 (monO M), pts n3 (.obj [.mp n1, .mp n2])] H' := by
 have T : TiesIn H tt l mo L M := ⟨by unfold objAt; rw [On.at h 1 rfl], On.at h 2 rfl, On.at h 3 rfl, hok, on_ne (On.pick [2, 3, 1, 0] [] (by kernel_rfl) h)⟩
 refine ⟨[.one (.ptr (H.length + 2) 0)], H ++ [lnkO L, monO M, .obj [.mp H.length, .mp (H.length + 1)]], Runs.spec hm hs ?_, H.length, H.length + 1, H.length + 2, rfl, ?_⟩
 ·unfold spCopy
  simp only [if_true, T.at, Option.map_some]
 ·have := On.new' (H := H ++ [lnkO L] ++ [monO M]) (n := H.length + 2) (by simp) (.obj [.mp H.length, .mp (H.length + 1)]) (On.new' (H := H ++ [lnkO L]) (n := H.length + 1) (by simp) (monO M) (On.new' (n := H.length) rfl (lnkO L) h))
  simpa only [List.append_assoc, List.cons_append, List.nil_append] using this
end
def toldOf (M : List TI.T) (r : Int) : TT5.T := match M.find? (fun y => r == y.1) with
 | some y => (r, y.2)
 | none => (r, ((0, (0, ())), ((0, (0, ())), ())))
theorem toldOf_is {M : List TI.T} {r : Int} {w : PR.T} (h : M.filter (fun y => r == y.1) = [((r, w) : TI.T)]) : toldOf M r = ((r, w) : TT5.T) := by
 unfold toldOf
 rw [← List.head?_filter, h]
 rfl
theorem told_step {M : List TI.T} {L : List Int} {i : Int} {x : Int} {w : PR.T} (h0 : 0 ≤ i) (hx : L[i.toNat]? = some x) (hw : M.filter (fun y => x == y.1) = [((x, w) : TI.T)]) : (L.take i.toNat).map (toldOf M) ++ [((x, w) : TT5.T)] = (L.take (i + 1).toNat).map (toldOf M) := by
 rw [show (i + 1).toNat = i.toNat + 1 by omega, List.take_add_one, hx, List.map_append, ← toldOf_is hw]
 rfl
theorem told_end {M : List TI.T} {L : List Int} {i : Int} (h : (L.length : Int) ≤ i) : (L.take i.toNat).map (toldOf M) = L.map (toldOf M) := by rw [List.take_of_length_le (by omega)]
theorem keysIn (q : PR.T → Bool) (M : List TI.T) : ∀ r ∈ isort ltI (refOf q M), keyB r M = true := by
 intro r hr
 have := (isort_perm ltI _).subset hr
 unfold refOf at this
 obtain ⟨y, hy, rfl⟩ := List.mem_map.1 this
 exact List.any_eq_true.2 ⟨y, (List.mem_filter.1 hy).1, by simp⟩
theorem lenI {q : PR.T → Bool} {M : List TI.T} (hn : M.length ≤ 3518437208883) : (isort ltI (refOf q M)).length ≤ 3518437208883 := by
 rw [isort_len]
 exact lenRs hn (List.Perm.refl _) q
theorem lenIM (q : PR.T → Bool) (M : List TI.T) : ((isort ltI (refOf q M)).length : Int) ≤ M.length := by
 rw [isort_len]
 exact lenRd q M
def allOf (L : List PR.T) (M : List TI.T) : List TT5.T := isort ltK (L.map tieL) ++ (isort ltI (refOf q40 M)).map (toldOf M)
theorem okKs {L D : List PR.T} (hok : L.all okL = true) (hp : D.Perm L) : (D.map tieL).all okK = true := by
 rw [List.all_map, List.all_eq_true]
 intro x hx
 have := List.all_eq_true.1 hok x (hp.subset hx)
 show (decide ((0 : Int) = 0) && (okD x.1 && okD x.2.1)) = true
 rw [decide_eq_true rfl]
 exact this
theorem lenKs {L D : List PR.T} (hn : L.length ≤ 3518437208883) (hp : D.Perm L) : (D.map tieL).length ≤ 3518437208883 := by
 rw [List.length_map]; exact hp.length_eq ▸ hn
theorem lenKL {L D : List PR.T} (hp : D.Perm L) : ((isort ltK (D.map tieL)).length : Int) = L.length := by
 rw [isort_len, List.length_map, hp.length_eq]
theorem lenLd (L : List PR.T) (a : PD.T) : ((isort ltD (lnkOf L a)).length : Int) ≤ (L.length : Int) := by
 rw [isort_len]
 have := List.length_filterMap_le (fun p : PR.T => if eqb PD p.1 a then some p.2.1 else if eqb PD p.2.1 a then some p.1 else none) L
 unfold lnkOf
 omega
theorem allLen (L : List PR.T) (M : List TI.T) : ((allOf L M).length : Int) = (L.length : Int) + (M.length : Int) := by
 have h : (isort ltI (refOf q40 M)).length = M.length := by
  rw [isort_len]
  unfold refOf q40
  rw [List.length_map, List.filter_eq_self.2 (fun _ _ => rfl)]
 unfold allOf
 rw [List.length_append, isort_len, List.length_map, List.length_map, h]
 omega
theorem swoK : SWO ltK where
 irrefl x := swoT.irrefl _
 trans x y z := swoT.trans _ _ _
 ntrans x y z := swoT.ntrans _ _ _
theorem tieL_inj (x y : PR.T) (h : tieL x = tieL y) : x = y := (Prod.mk.inj h).2
def ltE (a b : PR.T) : Bool := ltK (tieL a) (tieL b)
theorem swoE : SWO ltE where
 irrefl x := swoT.irrefl _
 trans x y z := swoT.trans _ _ _
 ntrans x y z := swoT.ntrans _ _ _
theorem antiE (x y : PR.T) (h1 : ltE x y = false) (h2 : ltE y x = false) : x = y := by
 obtain ⟨⟨a, b, _⟩, ⟨c, d, _⟩, _⟩ := x
 obtain ⟨⟨a', b', _⟩, ⟨c', d', _⟩, _⟩ := y
 have := antiT _ _ h1 h2
 simp only [tieL, Prod.mk.injEq] at this
 obtain ⟨⟨rfl, rfl⟩, rfl, rfl⟩ := this
 rfl
theorem allPerm {L D : List PR.T} (hp : D.Perm L) : isort ltK (D.map tieL) = isort ltK (L.map tieL) := by
 have h : ∀ l : List PR.T, isort ltK (l.map tieL) = (isort ltE l).map tieL := isort_map (fun _ _ => rfl)
 rw [h, h, isort_of_perm swoE antiE hp]
end Go.Proofs.Ytjhgjbagmkiibaa
end
section
namespace Go.Proofs.Ytjhgjbagmkiibaa.E1
open Go.Lg
set_option linter.unusedVariables false
set_option maxRecDepth 100000
set_option maxHeartbeats 8000000
set_option linter.unusedSimpArgs false
def liveT : List (Nat × List (Nat × List Nat)) := [(16, [(0, [0]), (1, [0, 7]), (2, [2]), (3, [0, 3]), (4, [0, 3, 12]), (5, [0, 3, 12, 14]), (6, [0, 3, 4, 12]), (7, [0, 3, 12]), (8, [0, 3]), (9, [2])]),
 (29, [(0, [0]), (1, [2])]),
 (33, [(0, [0, 1]), (1, [0, 1, 5]), (2, [0, 5, 9, 10, 11]), (3, [0, 5, 9, 10, 11, 12]), (4, [0, 5, 7, 9, 10, 11]), (5, [0, 5, 7, 8, 9, 10, 11]), (6, [0, 5, 9, 10, 11]), (7, [0, 5, 9, 10, 11]), (8, [4])])]
def loopT : List (Nat × List (Nat × (List Nat × Bool))) := [(16, [(5, ([0, 3, 12], false))]),
 (33, [(3, ([0, 5, 9, 10, 11], false))])]
def maskT : List (Nat × List (Nat × List (Nat × (Bool × List Nat)))) := []
def tab {α : Type} (T : List (Nat × List (Nat × α))) (f r : Nat) : Option α := (T.lookup f).bind (List.lookup r)
def specT (f : Nat) : Option (List Y → Go.Lg.Heap → Option (List Y × Go.Lg.Heap)) := if f = 30 then some sort30 else if f = 34 then some spRefs else if f = 38 then some sort38 else if f = 52 then some sort52 else none
abbrev an : Ann := { pureSl := fun _ => true, dryB := fun t => t == 32 || t == 75 || t == 35, bagT := fun t => t == 58 || t == 59, pureFn := fun f => ([] : List Nat).contains f, live := tab liveT, loop := tab loopT, mask := fun f r i => (tab maskT f r).bind (List.lookup i), may := fun f => ([29, 33] : List Nat).contains f, spec := specT }
theorem spec_ok : ∀ f sp, an.spec f = some sp → SpOk pg f sp ∧ SpHid sp := by
 intro f sp h
 change specT f = some sp at h
 unfold specT at h
 split at h
 ·rename_i hf; subst hf; cases h; exact ⟨sort30_ok, sort30_hid⟩
 split at h
 ·rename_i hf; subst hf; cases h; exact ⟨refs_ok, refs_hid⟩
 split at h
 ·rename_i hf; subst hf; cases h; exact ⟨sort38_ok, sort38_hid⟩
 split at h
 ·rename_i hf; subst hf; cases h; exact ⟨sort52_ok, sort52_hid⟩
 ·cases h
theorem aok : AnnOk pg an := annOk_of (by kernel_rfl) spec_ok
end Go.Proofs.Ytjhgjbagmkiibaa.E1
end
