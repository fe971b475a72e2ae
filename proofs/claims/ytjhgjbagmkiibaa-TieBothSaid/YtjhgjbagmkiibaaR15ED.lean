/-
  Ties: Gone. (Printed by sx/r15t.py.)
-/
import Derived.Test.YtjhgjbagmkiibaaR15EC
namespace Go.Proofs.Ytjhgjbagmkiibaa.E
open Go.Lg
set_option linter.unusedVariables false
set_option maxRecDepth 100000
set_option maxHeartbeats 8000000
set_option linter.unusedSimpArgs false
theorem own_items' {s : Sh} {cs : List HP} {H : Go.Lg.Heap} {c : C} {l : List s.T} (hs : On cs H) (j : Nat) (hj : cs[j]? = some (ownP s c l)) : On (cs.set j (itemsP s c l)) H ∧ (cs.set j (itemsP s c l))[j]? = some (itemsP s c l) :=
  ⟨On.mono (A' := itemsP s c l) j hj (fun _ x => own_items x) hs, by rw [List.getElem?_set_self (List.getElem?_eq_some_iff.1 hj).1]⟩
theorem own_snap {s : Sh} {cs : List HP} {H : Go.Lg.Heap} {c : C} {l : List s.T} (hs : On cs H) (j : Nat) (hj : cs[j]? = some (ownP s c l)) : ∃ b n p, snapC H c = some (sv s b n p l) := items_snap (own_items' hs j hj).1 j (own_items' hs j hj).2
theorem ob_len_own {P : Program} {A : Ann} {t ty : TypeId} {s : Sh} {cs : List HP} {H : Go.Lg.Heap} {c : C} {l : List s.T} {e : Int} (hs : On cs H) (j : Nat) (hj : cs[j]? = some (ownP s c l)) (ht : (elemT P t).isSome = true) (hn : (l.length : Int) = e) :
    Ob P A [.y (.one c)] H (.call { callee := .builtin .len, args := #[.tmp 0], argTypes := #[t] }) ty (.y (.one (.sc (.int .i64 e)))) H := ob_len_items (own_items' hs j hj).1 j (own_items' hs j hj).2 ht hn
def delsL (L : List PR.T) (a : PD.T) (ds : List PD.T) : List PR.T := ds.foldl (fun L b => ldel L (pairOf a b)) L
def delsM (M : List TI.T) (rs : List Int) : List TI.T := rs.foldl mdel M
def goneL (L : List PR.T) (a : PD.T) : List PR.T := delsL L a (isort ltD (lnkOf L a))
def goneM (M : List TI.T) (a : PD.T) : List TI.T := delsM M (isort ltI (refOf (q36 a) M))
def toldG (M : List TI.T) (a : PD.T) : List TT5.T := (isort ltI (refOf (q35 a) M)).map (toldOf M)
theorem delsL_nd {a : PD.T} : ∀ {L : List PR.T} (ds : List PD.T), L.Nodup → (delsL L a ds).Nodup
  | _, [], h => h
  | _, _ :: ds, h => delsL_nd ds (h.filter _)
theorem delsM_uq : ∀ {M : List TI.T} (rs : List Int), Uniq M → Uniq (delsM M rs)
  | _, [], h => h
  | _, _ :: rs, h => delsM_uq rs (h.sublist (List.filter_sublist.map _))
theorem delsL_step {L : List PR.T} {a b : PD.T} {ds : List PD.T} {i : Int} (h0 : 0 ≤ i) (hb : ds[i.toNat]? = some b) : ldel (delsL L a (ds.take i.toNat)) (pairOf a b) = delsL L a (ds.take (i + 1).toNat) := by
  rw [show (i + 1).toNat = i.toNat + 1 by omega, List.take_add_one, hb]
  unfold delsL
  rw [List.foldl_append]
  rfl
theorem delsM_step {M : List TI.T} {r : Int} {rs : List Int} {i : Int} (h0 : 0 ≤ i) (hb : rs[i.toNat]? = some r) : mdel (delsM M (rs.take i.toNat)) r = delsM M (rs.take (i + 1).toNat) := by
  rw [show (i + 1).toNat = i.toNat + 1 by omega, List.take_add_one, hb]
  unfold delsM
  rw [List.foldl_append]
  rfl
theorem delsL_end {L : List PR.T} {a : PD.T} {ds : List PD.T} {i : Int} (h : (ds.length : Int) ≤ i) : delsL L a (ds.take i.toNat) = delsL L a ds := by rw [List.take_of_length_le (by omega)]
theorem delsM_end {M : List TI.T} {rs : List Int} {i : Int} (h : (rs.length : Int) ≤ i) : delsM M (rs.take i.toNat) = delsM M rs := by rw [List.take_of_length_le (by omega)]
theorem lnk_mem {L : List PR.T} {a b : PD.T} (h : b ∈ isort ltD (lnkOf L a)) : ∃ p ∈ L, (p.1 = a ∧ p.2.1 = b) ∨ (p.2.1 = a ∧ p.1 = b) := by
  have h := (isort_perm ltD _).subset h
  obtain ⟨p, hp, h⟩ := List.mem_filterMap.1 h
  refine ⟨p, hp, ?_⟩
  split at h
  · rename_i e; cases h; exact .inl ⟨eqb_eq rfl e, rfl⟩
  · split at h
    · rename_i e; cases h; exact .inr ⟨eqb_eq rfl e, rfl⟩
    · cases h
theorem okD_is {a : PD.T} (h : okD a = true) : ILe 0 a.1 ∧ ILt a.1 256 := of_decide_eq_true h
theorem lnk_bounds {L : List PR.T} {a b : PD.T} {i : Nat} (hok : L.all okL = true) (h : (isort ltD (lnkOf L a))[i]? = some b) : (ILe 0 a.1 ∧ ILt a.1 256) ∧ (ILe 0 b.1 ∧ ILt b.1 256) := by
  obtain ⟨p, hp, h⟩ := lnk_mem (List.mem_of_getElem? h)
  have ho := List.all_eq_true.1 hok p hp
  simp only [okL, Bool.and_eq_true] at ho
  rcases h with ⟨rfl, rfl⟩ | ⟨rfl, rfl⟩
  · exact ⟨okD_is ho.1, okD_is ho.2⟩
  · exact ⟨okD_is ho.2, okD_is ho.1⟩
theorem gone_ok (R : HP) (H : Go.Lg.Heap) (tt l mo : Nat) (L : List PR.T) (M : List TI.T) (a : PD.T) (hs : On [R, pts tt (.obj [.mp l, .mp mo]), pts l (lnkO L), pts mo (monO M)] H) (hT : okTies L M = true) : ∃ rs H', Runs pg an 13 [.one (.ptr tt 0), .agg [vi a.1, vi a.2.1]] H rs H' ∧ ∃ c d, rs = [.one c, .one d] ∧ On [R, pts tt (.obj [.mp l, .mp mo]), pts l (lnkO (goneL L a)), pts mo (monO (goneM M a)), ownP PD c (isort ltD (lnkOf L a)), ownP TT5 d (toldG M a)] H' := by
 obtain ⟨hLo, hL, hU, nL, nM⟩ := okTies_is hT
 have hLM := okTies_sum hT
 refine Runs.of (fn := Try.f13) Try.func13 rfl (by kernel_rfl) [(0, .y (.one (.ptr tt 0))), (1, .y (.agg [vi a.1, vi a.2.1]))] (by kernel_rfl) ?_
 obtain ⟨n1, hn1⟩ : ∃ n, n = List.length (H : Go.Lg.Heap) := ⟨_, rfl⟩
 refine Wp.regionSeq [(0, .y (.one (.ptr n1 0)), (H ++ [.obj [vi a.1, vi a.2.1]]))] [(0, .y (.one (.ptr tt 0))), (3, .y (.one (.ptr n1 0)))] (H ++ [.obj [vi a.1, vi a.2.1]])
   (cast (And.intro (ob_box (P := pg) (A := an) (H := H) (t := 24) (ty := 0) (n := n1) (v := .agg [vi a.1, vi a.2.1]) (cs := [vi a.1, vi a.2.1]) hn1 (by kernel_rfl) (by kernel_rfl) (by kernel_rfl)) trivial) (by kernel_rfl)) (by kernel_rfl) ?_
 refine Wp.gen (cs := [R, pts tt (.obj [.mp l, .mp mo]), pts l (lnkO L), pts mo (monO M), pts n1 (.obj [vi a.1, vi a.2.1])]) (On.new' hn1 (.obj [vi a.1, vi a.2.1]) hs) ?_
 intro H2 hs3
 refine Wp.seq ?_
 have hcall4 : Runs pg an 29 [.one (.ptr tt 0)] H2 [.one (vb true)] H2 := by
  refine runs_of ?_
  refine Runs.of (fn := Try.f29) Try.func29 rfl (by kernel_rfl) [(0, .y (.one (.ptr tt 0)))] (by kernel_rfl) ?_
  refine Wp.regionSeq [] [(0, .y (.one (.ptr tt 0)))] H2
    (cast trivial (by kernel_rfl)) (by kernel_rfl) ?_
  refine Wp.regionSeq [(6, .y (.one (.mp l)), H2)] [(2, xb true)] H2
    (cast (And.intro (ob_load_ptr (P := pg) (A := an) (H := H2) (t := 58) (ty := 0) (id := tt) (off := 0) (n := 1) (cs := [.mp l, .mp mo]) (cs' := [.mp l]) (v := .one (.mp l)) (On.at hs3 1 rfl) (by kernel_rfl) (by kernel_rfl) (by kernel_rfl) (by kernel_rfl)) trivial) (by kernel_rfl)) (by kernel_rfl) ?_
  refine Wp.ret ?_
  exact ⟨Or.inr rfl, [.one (vb true)], (by kernel_rfl), ⟨rfl, rfl⟩⟩
 refine Wp.regionSeq [(1, xb true, H2)] [(0, .y (.one (.ptr tt 0))), (3, .y (.one (.ptr n1 0))), (14, xb false)] H2
   (cast (And.intro (ob_call (P := pg) (A := an) (H := H2) (g := 29) (vals := [.y (.one (.ptr tt 0))]) (xs0 := [.one (.ptr tt 0)]) (res := [.one (vb true)]) (ats := #[]) (ty := 0) (v := xb true) (H' := H2) [.tmp 0] (by kernel_rfl) (by kernel_rfl) hcall4 (by kernel_rfl)) trivial) (by kernel_rfl)) (by kernel_rfl) ?_
 refine Wp.condF (by kernel_rfl) ?_
 refine Wp.skip ?_
 obtain ⟨_, H7, hr8, c5, rfl, hs9⟩ := links_c (A := an) rfl rfl _ (H2 : Go.Lg.Heap) tt l mo L M a (On.call [1, 2, 3] [0, 4] (by kernel_rfl) hs3) hT
 have hs9 : On [R, pts n1 (.obj [vi a.1, vi a.2.1]), pts tt (.obj [.mp l, .mp mo]), pts l (lnkO L), pts mo (monO M), ownP PD c5 (isort ltD (lnkOf L a))] H7 := On.flat hs9
 have hk6 : ((isort ltD (lnkOf L a)).length : Int) ≤ (L.length : Int) := lenLd _ _
 refine Wp.regionSeq [(1, .y (.agg [vi a.1, vi a.2.1]), H2), (2, .y (.one (c5)), H7)] [(0, .y (.one (.ptr tt 0))), (3, .y (.one (.ptr n1 0))), (6, .y (.one (c5)))] H7
   (cast (And.intro (ob_load_ptr (P := pg) (A := an) (H := H2) (t := 24) (ty := 0) (id := n1) (off := 0) (n := 2) (cs := [vi a.1, vi a.2.1]) (cs' := [vi a.1, vi a.2.1]) (v := .agg [vi a.1, vi a.2.1]) (On.at hs3 4 rfl) (by kernel_rfl) (by kernel_rfl) (by kernel_rfl) (by kernel_rfl)) (And.intro (ob_call (P := pg) (A := an) (H := H2) (g := 10) (vals := [.y (.one (.ptr tt 0)), .y (.agg [vi a.1, vi a.2.1])]) (xs0 := [.one (.ptr tt 0), .agg [vi a.1, vi a.2.1]]) (res := [.one (c5)]) (ats := #[]) (ty := 0) (v := .y (.one (c5))) (H' := H7) [.tmp 0, .tmp 1] (by kernel_rfl) (by kernel_rfl) hr8 (by kernel_rfl)) trivial)) (by kernel_rfl)) (by kernel_rfl) ?_
 refine Wp.gen (cs := [R, pts n1 (.obj [vi a.1, vi a.2.1]), pts tt (.obj [.mp l, .mp mo]), pts l (lnkO L), pts mo (monO M), ownP PD c5 (isort ltD (lnkOf L a))]) hs9 ?_
 intro H10 hs11
 obtain ⟨_, H14, hr15, c12, rfl, hs16⟩ := refs_c (A := an) rfl rfl 35 (q35 a) _ (H10 : Go.Lg.Heap) tt l mo n1 M a (On.call [2, 4, 1] [0, 3, 5] (by kernel_rfl) hs11) q35_of hU nM
 have hs16 : On [R, pts l (lnkO L), ownP PD c5 (isort ltD (lnkOf L a)), pts tt (.obj [.mp l, .mp mo]), pts mo (monO M), pts n1 (.obj [vi a.1, vi a.2.1]), ownP NI c12 (isort ltI (refOf (q35 a) M))] H14 := On.flat hs16
 have hz13 : ((isort ltI (refOf (q35 a) M)).length : Int) ≤ (M.length : Int) := lenIM (q35 a) M
 obtain ⟨_, H19, hr20, c17, rfl, hs21⟩ := told_ok _ (H14 : Go.Lg.Heap) tt l mo M c12 (isort ltI (refOf (q35 a) M)) (On.call [3, 4, 6] [0, 1, 2, 5] (by kernel_rfl) hs16) (keysIn (q35 a) _) hU (lenI nM)
 have hs21 : On [R, pts l (lnkO L), ownP PD c5 (isort ltD (lnkOf L a)), pts n1 (.obj [vi a.1, vi a.2.1]), pts tt (.obj [.mp l, .mp mo]), pts mo (monO M), ownP NI c12 (isort ltI (refOf (q35 a) M)), ownP TT5 c17 ((isort ltI (refOf (q35 a) M)).map (toldOf M))] H19 := On.flat hs21
 have ht18 : (((isort ltI (refOf (q35 a) M)).map (toldOf M)).length : Int) ≤ (M.length : Int) := by have := lenIM (q35 a) M; rw [List.length_map]; omega
 refine Wp.regionSeq [(3, .y (.one (c12)), H14), (4, .y (.one (c17)), H19)] [(0, .y (.one (.ptr tt 0))), (3, .y (.one (.ptr n1 0))), (6, .y (.one (c5))), (7, .y (.one (c17)))] H19
   (cast (And.intro (ob_call (P := pg) (A := an) (H := H10) (g := 34) (vals := [.y (.one (.ptr tt 0)), .y (.one (.fn (.func 35) [] [.ptr n1 0]))]) (xs0 := [.one (.ptr tt 0), .one (.fn (.func 35) [] [.ptr n1 0])]) (res := [.one (c12)]) (ats := #[]) (ty := 0) (v := .y (.one (c12))) (H' := H14) [.tmp 0, .tmp 1] (by kernel_rfl) (by kernel_rfl) hr15 (by kernel_rfl)) (And.intro (ob_call (P := pg) (A := an) (H := H14) (g := 33) (vals := [.y (.one (.ptr tt 0)), .y (.one (c12))]) (xs0 := [.one (.ptr tt 0), .one (c12)]) (res := [.one (c17)]) (ats := #[]) (ty := 0) (v := .y (.one (c17))) (H' := H19) [.tmp 0, .tmp 1] (by kernel_rfl) (by kernel_rfl) hr20 (by kernel_rfl)) trivial)) (by kernel_rfl)) (by kernel_rfl) ?_
 refine Wp.gen (cs := [R, pts l (lnkO L), ownP PD c5 (isort ltD (lnkOf L a)), pts n1 (.obj [vi a.1, vi a.2.1]), pts tt (.obj [.mp l, .mp mo]), pts mo (monO M), ownP NI c12 (isort ltI (refOf (q35 a) M)), ownP TT5 c17 ((isort ltI (refOf (q35 a) M)).map (toldOf M))]) hs21 ?_
 intro H22 hs23
 refine Wp.seq ?_
 refine Wp.regionSeq [(1, xi ((isort ltD (lnkOf L a)).length : Int), H22)] [(0, .y (.one (.ptr tt 0))), (3, .y (.one (.ptr n1 0))), (6, .y (.one (c5))), (7, .y (.one (c17))), (23, .y (.one (c5))), (24, xi ((isort ltD (lnkOf L a)).length : Int)), (25, xi 0)] H22
   (cast (And.intro (ob_len_own (P := pg) (A := an) (s := PD) (c := c5) (l := (isort ltD (lnkOf L a))) (t := 32) (ty := 0) (e := ((isort ltD (lnkOf L a)).length : Int)) hs23 2 rfl (by kernel_rfl) rfl) trivial) (by kernel_rfl)) (by kernel_rfl) ?_
 refine Wp.block ?_
 obtain ⟨rfl, hl26, hs24⟩ | ⟨k27, rfl, k27z, hs25⟩ := own_open hs23 2 rfl
 ·
  have hl26n : ((isort ltD (lnkOf L a)).length : Int) = 0 := by rw [hl26]; rfl
  refine Wp.loopU [(0, .y (.one (.ptr tt 0))), (3, .y (.one (.ptr n1 0))), (6, .y (.one (.sl false true true [] 0))), (7, .y (.one (c17))), (23, .y (.one (.sl false true true [] 0))), (24, xi ((isort ltD (lnkOf L a)).length : Int)), (25, xi 0)] (some ([0, 3, 6, 7, 23, 24, 25], false)) (List.length H22) (by kernel_rfl) ?_
  refine WpL.step ?_
  refine Wp.regionSeq [(0, xb false, H22)] [(0, .y (.one (.ptr tt 0))), (3, .y (.one (.ptr n1 0))), (6, .y (.one (.sl false true true [] 0))), (7, .y (.one (c17))), (23, .y (.one (.sl false true true [] 0))), (24, xi ((isort ltD (lnkOf L a)).length : Int)), (25, xi 0), (26, xb false)] H22
    (cast (And.intro (ob_raw (P := pg) (A := an) (vals := [xi 0, xi ((isort ltD (lnkOf L a)).length : Int)]) (H := H22) (op := .binOp .lss 3 (.tmp 0) (.tmp 1) 3) (ty := 0) (r := xb (decide (ILt (0) (((isort ltD (lnkOf L a)).length : Int))))) (v := xb false) (by kernel_rfl) (congrArg (fun z => xb z) (decide_eq_false (by omega)))) trivial) (by kernel_rfl)) (by kernel_rfl) ?_
  refine Wp.seq ?_
  refine Wp.condF (by kernel_rfl) ?_
  refine Wp.exit ?_
  refine Eq.mpr (if_pos rfl) ?_
  refine Wp.seq ?_
  obtain ⟨_, H30, hr31, c28, rfl, hs32⟩ := refs_c (A := an) rfl rfl 36 (q36 a) _ (H22 : Go.Lg.Heap) tt l mo n1 M a (On.call [3, 4, 2] [0, 1, 5, 6] (by kernel_rfl) hs24) q36_of hU nM
  have hs32 : On [R, pts l (lnkO L), ownP NI c12 (isort ltI (refOf (q35 a) M)), ownP TT5 c17 ((isort ltI (refOf (q35 a) M)).map (toldOf M)), pts tt (.obj [.mp l, .mp mo]), pts mo (monO M), pts n1 (.obj [vi a.1, vi a.2.1]), ownP NI c28 (isort ltI (refOf (q36 a) M))] H30 := On.flat hs32
  have hz29 : ((isort ltI (refOf (q36 a) M)).length : Int) ≤ (M.length : Int) := lenIM (q36 a) M
  refine Wp.regionSeq [(2, .y (.one (c28)), H30), (3, xi ((isort ltI (refOf (q36 a) M)).length : Int), H30)] [(0, .y (.one (.ptr tt 0))), (6, .y (.one (.sl false true true [] 0))), (7, .y (.one (c17))), (39, .y (.one (c28))), (40, xi ((isort ltI (refOf (q36 a) M)).length : Int)), (41, xi 0)] H30
    (cast (And.intro (ob_call (P := pg) (A := an) (H := H22) (g := 34) (vals := [.y (.one (.ptr tt 0)), .y (.one (.fn (.func 36) [] [.ptr n1 0]))]) (xs0 := [.one (.ptr tt 0), .one (.fn (.func 36) [] [.ptr n1 0])]) (res := [.one (c28)]) (ats := #[]) (ty := 0) (v := .y (.one (c28))) (H' := H30) [.tmp 0, .tmp 1] (by kernel_rfl) (by kernel_rfl) hr31 (by kernel_rfl)) (And.intro (ob_len_own (P := pg) (A := an) (s := NI) (c := c28) (l := (isort ltI (refOf (q36 a) M))) (t := 75) (ty := 0) (e := ((isort ltI (refOf (q36 a) M)).length : Int)) hs32 7 rfl (by kernel_rfl) rfl) trivial)) (by kernel_rfl)) (by kernel_rfl) ?_
  refine Wp.gen (cs := [R, pts l (lnkO L), ownP NI c12 (isort ltI (refOf (q35 a) M)), ownP TT5 c17 ((isort ltI (refOf (q35 a) M)).map (toldOf M)), pts tt (.obj [.mp l, .mp mo]), pts mo (monO M), pts n1 (.obj [vi a.1, vi a.2.1]), ownP NI c28 (isort ltI (refOf (q36 a) M))]) hs32 ?_
  intro H33 hs34
  refine Wp.block ?_
  obtain ⟨rfl, hl37, hs35⟩ | ⟨k38, rfl, k38z, hs36⟩ := own_open hs34 7 rfl
  ·
   have hl37n : ((isort ltI (refOf (q36 a) M)).length : Int) = 0 := by rw [hl37]; rfl
   refine Wp.loopU [(0, .y (.one (.ptr tt 0))), (6, .y (.one (.sl false true true [] 0))), (7, .y (.one (c17))), (39, .y (.one (.sl false true true [] 0))), (40, xi ((isort ltI (refOf (q36 a) M)).length : Int)), (41, xi 0)] (some ([0, 6, 7, 39, 40, 41], false)) (List.length H33) (by kernel_rfl) ?_
   refine WpL.step ?_
   refine Wp.regionSeq [(0, xb false, H33)] [(0, .y (.one (.ptr tt 0))), (6, .y (.one (.sl false true true [] 0))), (7, .y (.one (c17))), (39, .y (.one (.sl false true true [] 0))), (40, xi ((isort ltI (refOf (q36 a) M)).length : Int)), (41, xi 0), (42, xb false)] H33
     (cast (And.intro (ob_raw (P := pg) (A := an) (vals := [xi 0, xi ((isort ltI (refOf (q36 a) M)).length : Int)]) (H := H33) (op := .binOp .lss 3 (.tmp 0) (.tmp 1) 3) (ty := 0) (r := xb (decide (ILt (0) (((isort ltI (refOf (q36 a) M)).length : Int))))) (v := xb false) (by kernel_rfl) (congrArg (fun z => xb z) (decide_eq_false (by omega)))) trivial) (by kernel_rfl)) (by kernel_rfl) ?_
   refine Wp.seq ?_
   refine Wp.condF (by kernel_rfl) ?_
   refine Wp.exit ?_
   refine Eq.mpr (if_pos rfl) ?_
   refine Wp.regionSeq [] [(4, .y (.one (.sl false true true [] 0))), (5, .y (.one (c17)))] H33
     (cast trivial (by kernel_rfl)) (by kernel_rfl) ?_
   refine Wp.ret ?_
   refine ⟨Or.inr rfl, [.one (.sl false true true [] 0), .one (c17)], (by kernel_rfl), ?_⟩
   have hs39 : On [R, pts l (lnkO (goneL L a)), ownP NI c12 (isort ltI (refOf (q35 a) M)), ownP TT5 c17 ((isort ltI (refOf (q35 a) M)).map (toldOf M)), pts tt (.obj [.mp l, .mp mo]), pts mo (monO (goneM M a)), pts n1 (.obj [vi a.1, vi a.2.1]), ownP PD (.sl false true true [] 0) (isort ltD (lnkOf L a))] H33 := On.shut (cs := [R, pts l (lnkO (goneL L a)), ownP NI c12 (isort ltI (refOf (q35 a) M)), ownP TT5 c17 ((isort ltI (refOf (q35 a) M)).map (toldOf M)), pts tt (.obj [.mp l, .mp mo]), pts mo (monO (goneM M a)), pts n1 (.obj [vi a.1, vi a.2.1])]) [] [0, 1, 2, 3, 4, 5, 6] (by kernel_rfl) (fun _ _ => by rw [show (isort ltD (lnkOf L a)) = ([] : List PD.T) from hl26]; exact .inl ⟨rfl, rfl⟩) (On.mono (A' := pts mo (monO (goneM M a))) 5 rfl (fun _ x => by rw [← (show M = (goneM M a) from by unfold goneM; rw [hl37]; rfl)]; exact x) (On.mono (A' := pts l (lnkO (goneL L a))) 1 rfl (fun _ x => by rw [← (show L = (goneL L a) from by unfold goneL; rw [hl26]; rfl)]; exact x) hs35))
   exact ⟨(.sl false true true [] 0), c17, rfl, (On.pick [0, 4, 1, 5, 7, 3] [2, 6] (by kernel_rfl) (On.mono (A' := ownP TT5 c17 (toldG M a)) 3 rfl (fun _ x => by rw [← (show ((isort ltI (refOf (q35 a) M)).map (toldOf M)) = (toldG M a) from rfl)]; exact x) hs39))⟩
  ·
   refine Wp.loop (T := Go.Lg.Heap × Int) (fun (t : Go.Lg.Heap × Int) => match t with | (H41, i2) => ((((isort ltI (refOf (q36 a) M)).length : Int) - i2).toNat : Nat)) (fun (t : Go.Lg.Heap × Int) => match t with | (H41, i2) => ([(0, .y (.one (.ptr tt 0))), (6, .y (.one (.sl false true true [] 0))), (7, .y (.one (c17))), (39, .y (.one (rowC k38 0 (isort ltI (refOf (q36 a) M)).length 0 ((isort ltI (refOf (q36 a) M)).length) false))), (40, xi ((isort ltI (refOf (q36 a) M)).length : Int)), (41, xi i2)] : Env)) (fun (t : Go.Lg.Heap × Int) => match t with | (H41, i2) => (H41 : Go.Lg.Heap))
     (fun (t : Go.Lg.Heap × Int) => match t with | (H41, i2) => (On [R, pts l (lnkO L), ownP NI c12 (isort ltI (refOf (q35 a) M)), ownP TT5 c17 ((isort ltI (refOf (q35 a) M)).map (toldOf M)), pts tt (.obj [.mp l, .mp mo]), pts n1 (.obj [vi a.1, vi a.2.1]), pts k38 (rowO NI true 0 (isort ltI (refOf (q36 a) M))), pts mo (monO (delsM M ((isort ltI (refOf (q36 a) M)).take (i2 : Int).toNat)))] H41 ∧ (0 ≤ i2) ∧ (i2 ≤ ((isort ltI (refOf (q36 a) M)).length : Int)) : Prop)) (H33, 0) (by kernel_rfl) (⟨(On.pick [0, 1, 2, 3, 4, 6, 7, 5] [] (by kernel_rfl) (On.mono (A' := pts mo (monO (delsM M ((isort ltI (refOf (q36 a) M)).take (0 : Int).toNat)))) 5 rfl (fun _ x => by rw [← (show M = (delsM M ((isort ltI (refOf (q36 a) M)).take (0 : Int).toNat)) from rfl)]; exact x) hs36)), by omega, by omega⟩) ?_
   rintro ⟨H41, i2⟩ ⟨hs42, hi21, hi22⟩
   show Wp _ _ _ _ [(0, .y (.one (.ptr tt 0))), (6, .y (.one (.sl false true true [] 0))), (7, .y (.one (c17))), (39, .y (.one (rowC k38 0 (isort ltI (refOf (q36 a) M)).length 0 ((isort ltI (refOf (q36 a) M)).length) false))), (40, xi ((isort ltI (refOf (q36 a) M)).length : Int)), (41, xi i2)] H41 _
   rcases ilt (i2) (((isort ltI (refOf (q36 a) M)).length : Int)) with c43 | c43
   ·
    refine Wp.regionSeq [(0, xb true, H41)] [(0, .y (.one (.ptr tt 0))), (6, .y (.one (.sl false true true [] 0))), (7, .y (.one (c17))), (39, .y (.one (rowC k38 0 (isort ltI (refOf (q36 a) M)).length 0 ((isort ltI (refOf (q36 a) M)).length) false))), (40, xi ((isort ltI (refOf (q36 a) M)).length : Int)), (41, xi i2), (42, xb true)] H41
      (cast (And.intro (ob_raw (P := pg) (A := an) (vals := [xi i2, xi ((isort ltI (refOf (q36 a) M)).length : Int)]) (H := H41) (op := .binOp .lss 3 (.tmp 0) (.tmp 1) 3) (ty := 0) (r := xb (decide (ILt (i2) (((isort ltI (refOf (q36 a) M)).length : Int))))) (v := xb true) (by kernel_rfl) (congrArg (fun z => xb z) (decide_eq_true (by omega)))) trivial) (by kernel_rfl)) (by kernel_rfl) ?_
    refine Wp.seq ?_
    refine Wp.condT (by kernel_rfl) ?_
    refine Wp.skip ?_
    refine Wp.seq ?_
    refine Wp.block ?_
    obtain ⟨x44, hx44⟩ : ∃ x : Int, (isort ltI (refOf (q36 a) M))[(i2 : Int).toNat]? = some x := get_of (by first | rfl | omega | (simp only [List.length_nil]; omega) | (simp; done) | (simp; omega))
    refine Wp.regionSeq [(0, .y (.one (raC k38 0 (isort ltI (refOf (q36 a) M)).length 1 ((i2 : Int).toNat) 0)), H41), (1, xi x44, H41)] [(0, .y (.one (.ptr tt 0))), (6, .y (.one (.sl false true true [] 0))), (7, .y (.one (c17))), (11, xi x44), (39, .y (.one (rowC k38 0 (isort ltI (refOf (q36 a) M)).length 0 ((isort ltI (refOf (q36 a) M)).length) false))), (40, xi ((isort ltI (refOf (q36 a) M)).length : Int)), (41, xi i2)] H41
      (cast (And.intro (or_index (P := pg) (A := an) (H := H41) (s := NI) (t := 75) (el := 3) (ty := 0) (pu := true) (capd := false) (id := k38) (d := 0) (o := 0) (n := ((isort ltI (refOf (q36 a) M)).length)) (j := ((i2 : Int).toNat)) (l := (isort ltI (refOf (q36 a) M))) (i := i2) (On.at hs42 6 rfl) Try.underlying75 (by kernel_rfl) (by omega) (by first | rfl | omega | (simp only [List.length_nil]; omega) | (simp; done) | (simp; omega)) (by first | rfl | omega | (simp only [List.length_nil]; omega) | (simp; done) | (simp; omega)) (by first | rfl | omega | (simp only [List.length_nil]; omega) | (simp; done) | (simp; omega))) (And.intro (or_load (P := pg) (A := an) (H := H41) (s := NI) (t := 3) (ty := 0) (pu := true) (id := k38) (d := 0) (j := ((i2 : Int).toNat)) (o := 0) (n := 1) (l := (isort ltI (refOf (q36 a) M))) (x := x44) (v := .one (vi x44)) (On.at hs42 6 rfl) (by kernel_rfl) (by kernel_rfl) (of_content (L := (isort ltI (refOf (q36 a) M))) (o := 0) (n := ((isort ltI (refOf (q36 a) M)).length)) (dt0 rfl (Nat.le_refl _)) hx44 (by first | rfl | omega | (simp only [List.length_nil]; omega) | (simp; done) | (simp; omega))) (by kernel_rfl)) trivial)) (by kernel_rfl)) (by kernel_rfl) ?_
    refine Wp.regionK [(3, .y (.one (.mp mo)), H41), (5, .tup [], (List.set (α := O) H41 mo (monO (mdel (delsM M ((isort ltI (refOf (q36 a) M)).take (i2 : Int).toNat)) x44))))] [(0, .y (.one (.ptr tt 0))), (6, .y (.one (.sl false true true [] 0))), (7, .y (.one (c17))), (39, .y (.one (rowC k38 0 (isort ltI (refOf (q36 a) M)).length 0 ((isort ltI (refOf (q36 a) M)).length) false))), (40, xi ((isort ltI (refOf (q36 a) M)).length : Int)), (41, xi i2)] (List.set (α := O) H41 mo (monO (mdel (delsM M ((isort ltI (refOf (q36 a) M)).take (i2 : Int).toNat)) x44)))
      (cast (And.intro (ob_load_ptr (P := pg) (A := an) (H := H41) (t := 59) (ty := 0) (id := tt) (off := 1) (n := 1) (cs := [.mp l, .mp mo]) (cs' := [.mp mo]) (v := .one (.mp mo)) (On.at hs42 4 rfl) (by kernel_rfl) (by kernel_rfl) (by kernel_rfl) (by kernel_rfl)) (And.intro (mo_del (A := an) (H := H41) (id := mo) (ms := (delsM M ((isort ltI (refOf (q36 a) M)).take (i2 : Int).toNat))) (r := x44) (On.at hs42 7 rfl) (delsM_uq _ hU) (ts := #[59, 3]) rfl) trivial)) (by kernel_rfl)) (by kernel_rfl) ?_
    refine Wp.gen (cs := [R, pts l (lnkO L), ownP NI c12 (isort ltI (refOf (q35 a) M)), ownP TT5 c17 ((isort ltI (refOf (q35 a) M)).map (toldOf M)), pts tt (.obj [.mp l, .mp mo]), pts n1 (.obj [vi a.1, vi a.2.1]), pts k38 (rowO NI true 0 (isort ltI (refOf (q36 a) M))), pts mo (monO (mdel (delsM M ((isort ltI (refOf (q36 a) M)).take (i2 : Int).toNat)) x44))]) (On.put (monO (mdel (delsM M ((isort ltI (refOf (q36 a) M)).take (i2 : Int).toNat)) x44)) hs42 7 rfl) ?_
    intro H45 hs46
    refine Wp.skip ?_
    refine Wp.region [(0, xi (i2 + 1), H45)] [(0, .y (.one (.ptr tt 0))), (6, .y (.one (.sl false true true [] 0))), (7, .y (.one (c17))), (39, .y (.one (rowC k38 0 (isort ltI (refOf (q36 a) M)).length 0 ((isort ltI (refOf (q36 a) M)).length) false))), (40, xi ((isort ltI (refOf (q36 a) M)).length : Int)), (41, xi (i2 + 1))] H45
      (cast (And.intro (ob_raw (P := pg) (A := an) (vals := [xi i2, xi 1]) (H := H45) (op := .binOp .add 3 (.tmp 0) (.tmp 1) 3) (ty := 0) (r := xi (IntKind.wrap .i64 (i2 + 1))) (v := xi (i2 + 1)) (by kernel_rfl) (congrArg (fun z => xi z) ((wrap64 (by omega)).trans (by omega)))) trivial) (by kernel_rfl)) (by kernel_rfl) ?_
    exact ⟨(H45, (i2 + 1)), by kernel_rfl, (⟨(On.pick [0, 1, 2, 3, 4, 5, 6, 7] [] (by kernel_rfl) (On.mono (A' := pts mo (monO (delsM M ((isort ltI (refOf (q36 a) M)).take ((i2 + 1) : Int).toNat)))) 7 rfl (fun _ x => by rw [← (show (mdel (delsM M ((isort ltI (refOf (q36 a) M)).take (i2 : Int).toNat)) x44) = (delsM M ((isort ltI (refOf (q36 a) M)).take ((i2 + 1) : Int).toNat)) from delsM_step hi21 hx44)]; exact x) hs46)), by omega, by omega⟩), (by show (_ : Nat) < _; simp only []; omega)⟩
   ·
    refine Wp.regionSeq [(0, xb false, H41)] [(0, .y (.one (.ptr tt 0))), (6, .y (.one (.sl false true true [] 0))), (7, .y (.one (c17))), (39, .y (.one (rowC k38 0 (isort ltI (refOf (q36 a) M)).length 0 ((isort ltI (refOf (q36 a) M)).length) false))), (40, xi ((isort ltI (refOf (q36 a) M)).length : Int)), (41, xi i2), (42, xb false)] H41
      (cast (And.intro (ob_raw (P := pg) (A := an) (vals := [xi i2, xi ((isort ltI (refOf (q36 a) M)).length : Int)]) (H := H41) (op := .binOp .lss 3 (.tmp 0) (.tmp 1) 3) (ty := 0) (r := xb (decide (ILt (i2) (((isort ltI (refOf (q36 a) M)).length : Int))))) (v := xb false) (by kernel_rfl) (congrArg (fun z => xb z) (decide_eq_false (by omega)))) trivial) (by kernel_rfl)) (by kernel_rfl) ?_
    refine Wp.seq ?_
    refine Wp.condF (by kernel_rfl) ?_
    refine Wp.exit ?_
    refine Eq.mpr (if_pos rfl) ?_
    refine Wp.regionSeq [] [(4, .y (.one (.sl false true true [] 0))), (5, .y (.one (c17)))] H41
      (cast trivial (by kernel_rfl)) (by kernel_rfl) ?_
    refine Wp.ret ?_
    refine ⟨Or.inr rfl, [.one (.sl false true true [] 0), .one (c17)], (by kernel_rfl), ?_⟩
    have hs47 : On [R, pts l (lnkO (goneL L a)), ownP NI c12 (isort ltI (refOf (q35 a) M)), ownP TT5 c17 ((isort ltI (refOf (q35 a) M)).map (toldOf M)), pts tt (.obj [.mp l, .mp mo]), pts n1 (.obj [vi a.1, vi a.2.1]), pts k38 (rowO NI true 0 (isort ltI (refOf (q36 a) M))), pts mo (monO (goneM M a)), ownP PD (.sl false true true [] 0) (isort ltD (lnkOf L a))] H41 := On.shut (cs := [R, pts l (lnkO (goneL L a)), ownP NI c12 (isort ltI (refOf (q35 a) M)), ownP TT5 c17 ((isort ltI (refOf (q35 a) M)).map (toldOf M)), pts tt (.obj [.mp l, .mp mo]), pts n1 (.obj [vi a.1, vi a.2.1]), pts k38 (rowO NI true 0 (isort ltI (refOf (q36 a) M))), pts mo (monO (goneM M a))]) [] [0, 1, 2, 3, 4, 5, 6, 7] (by kernel_rfl) (fun _ _ => by rw [show (isort ltD (lnkOf L a)) = ([] : List PD.T) from hl26]; exact .inl ⟨rfl, rfl⟩) (On.mono (A' := pts mo (monO (goneM M a))) 7 rfl (fun _ x => by rw [← (show (delsM M ((isort ltI (refOf (q36 a) M)).take (i2 : Int).toNat)) = (goneM M a) from delsM_end (by omega))]; exact x) (On.mono (A' := pts l (lnkO (goneL L a))) 1 rfl (fun _ x => by rw [← (show L = (goneL L a) from by unfold goneL; rw [hl26]; rfl)]; exact x) hs42))
    exact ⟨(.sl false true true [] 0), c17, rfl, (On.pick [0, 4, 1, 7, 8, 3] [2, 5, 6] (by kernel_rfl) (On.mono (A' := ownP TT5 c17 (toldG M a)) 3 rfl (fun _ x => by rw [← (show ((isort ltI (refOf (q35 a) M)).map (toldOf M)) = (toldG M a) from rfl)]; exact x) hs47))⟩
 ·
  refine Wp.loop (T := Go.Lg.Heap × Int) (fun (t : Go.Lg.Heap × Int) => match t with | (H49, i1) => ((((isort ltD (lnkOf L a)).length : Int) - i1).toNat : Nat)) (fun (t : Go.Lg.Heap × Int) => match t with | (H49, i1) => ([(0, .y (.one (.ptr tt 0))), (3, .y (.one (.ptr n1 0))), (6, .y (.one (rowC k27 0 (isort ltD (lnkOf L a)).length 0 ((isort ltD (lnkOf L a)).length) false))), (7, .y (.one (c17))), (23, .y (.one (rowC k27 0 (isort ltD (lnkOf L a)).length 0 ((isort ltD (lnkOf L a)).length) false))), (24, xi ((isort ltD (lnkOf L a)).length : Int)), (25, xi i1)] : Env)) (fun (t : Go.Lg.Heap × Int) => match t with | (H49, i1) => (H49 : Go.Lg.Heap))
    (fun (t : Go.Lg.Heap × Int) => match t with | (H49, i1) => (On [R, pts n1 (.obj [vi a.1, vi a.2.1]), pts tt (.obj [.mp l, .mp mo]), pts mo (monO M), ownP NI c12 (isort ltI (refOf (q35 a) M)), ownP TT5 c17 ((isort ltI (refOf (q35 a) M)).map (toldOf M)), pts k27 (rowO PD true 0 (isort ltD (lnkOf L a))), pts l (lnkO (delsL L a ((isort ltD (lnkOf L a)).take (i1 : Int).toNat)))] H49 ∧ (0 ≤ i1) ∧ (i1 ≤ ((isort ltD (lnkOf L a)).length : Int)) : Prop)) (H22, 0) (by kernel_rfl) (⟨(On.pick [0, 2, 3, 4, 5, 6, 7, 1] [] (by kernel_rfl) (On.mono (A' := pts l (lnkO (delsL L a ((isort ltD (lnkOf L a)).take (0 : Int).toNat)))) 1 rfl (fun _ x => by rw [← (show L = (delsL L a ((isort ltD (lnkOf L a)).take (0 : Int).toNat)) from rfl)]; exact x) hs25)), by omega, by omega⟩) ?_
  rintro ⟨H49, i1⟩ ⟨hs50, hi11, hi12⟩
  show Wp _ _ _ _ [(0, .y (.one (.ptr tt 0))), (3, .y (.one (.ptr n1 0))), (6, .y (.one (rowC k27 0 (isort ltD (lnkOf L a)).length 0 ((isort ltD (lnkOf L a)).length) false))), (7, .y (.one (c17))), (23, .y (.one (rowC k27 0 (isort ltD (lnkOf L a)).length 0 ((isort ltD (lnkOf L a)).length) false))), (24, xi ((isort ltD (lnkOf L a)).length : Int)), (25, xi i1)] H49 _
  rcases ilt (i1) (((isort ltD (lnkOf L a)).length : Int)) with c51 | c51
  ·
   refine Wp.regionSeq [(0, xb true, H49)] [(0, .y (.one (.ptr tt 0))), (3, .y (.one (.ptr n1 0))), (6, .y (.one (rowC k27 0 (isort ltD (lnkOf L a)).length 0 ((isort ltD (lnkOf L a)).length) false))), (7, .y (.one (c17))), (23, .y (.one (rowC k27 0 (isort ltD (lnkOf L a)).length 0 ((isort ltD (lnkOf L a)).length) false))), (24, xi ((isort ltD (lnkOf L a)).length : Int)), (25, xi i1), (26, xb true)] H49
     (cast (And.intro (ob_raw (P := pg) (A := an) (vals := [xi i1, xi ((isort ltD (lnkOf L a)).length : Int)]) (H := H49) (op := .binOp .lss 3 (.tmp 0) (.tmp 1) 3) (ty := 0) (r := xb (decide (ILt (i1) (((isort ltD (lnkOf L a)).length : Int))))) (v := xb true) (by kernel_rfl) (congrArg (fun z => xb z) (decide_eq_true (by omega)))) trivial) (by kernel_rfl)) (by kernel_rfl) ?_
   refine Wp.seq ?_
   refine Wp.condT (by kernel_rfl) ?_
   refine Wp.skip ?_
   refine Wp.seq ?_
   refine Wp.block ?_
   obtain ⟨x52, hx52⟩ : ∃ x : PD.T, (isort ltD (lnkOf L a))[(i1 : Int).toNat]? = some x := get_of (by first | rfl | omega | (simp only [List.length_nil]; omega) | (simp; done) | (simp; omega))
   obtain ⟨n53, hn53⟩ : ∃ n, n = List.length (H49 : Go.Lg.Heap) := ⟨_, rfl⟩
   refine Wp.regionSeq [(0, .y (.one (raC k27 0 (isort ltD (lnkOf L a)).length 2 ((i1 : Int).toNat) 0)), H49), (1, .y (.agg [vi x52.1, vi x52.2.1]), H49), (2, .y (.one (.ptr n53 0)), (H49 ++ [.obj [vi 0, vi 0]])), (3, .tup [], (List.set (α := O) (H49 ++ [.obj [vi 0, vi 0]]) n53 (.obj [vi x52.1, vi x52.2.1])))] [(0, .y (.one (.ptr tt 0))), (3, .y (.one (.ptr n1 0))), (6, .y (.one (rowC k27 0 (isort ltD (lnkOf L a)).length 0 ((isort ltD (lnkOf L a)).length) false))), (7, .y (.one (c17))), (9, .y (.one (.ptr n53 0))), (23, .y (.one (rowC k27 0 (isort ltD (lnkOf L a)).length 0 ((isort ltD (lnkOf L a)).length) false))), (24, xi ((isort ltD (lnkOf L a)).length : Int)), (25, xi i1)] (List.set (α := O) (H49 ++ [.obj [vi 0, vi 0]]) n53 (.obj [vi x52.1, vi x52.2.1]))
     (cast (And.intro (or_index (P := pg) (A := an) (H := H49) (s := PD) (t := 32) (el := 24) (ty := 0) (pu := true) (capd := false) (id := k27) (d := 0) (o := 0) (n := ((isort ltD (lnkOf L a)).length)) (j := ((i1 : Int).toNat)) (l := (isort ltD (lnkOf L a))) (i := i1) (On.at hs50 6 rfl) Try.underlying32 (by kernel_rfl) (by omega) (by first | rfl | omega | (simp only [List.length_nil]; omega) | (simp; done) | (simp; omega)) (by first | rfl | omega | (simp only [List.length_nil]; omega) | (simp; done) | (simp; omega)) (by first | rfl | omega | (simp only [List.length_nil]; omega) | (simp; done) | (simp; omega))) (And.intro (or_load (P := pg) (A := an) (H := H49) (s := PD) (t := 24) (ty := 0) (pu := true) (id := k27) (d := 0) (j := ((i1 : Int).toNat)) (o := 0) (n := 2) (l := (isort ltD (lnkOf L a))) (x := x52) (v := .agg [vi x52.1, vi x52.2.1]) (On.at hs50 6 rfl) (by kernel_rfl) (by kernel_rfl) (of_content (L := (isort ltD (lnkOf L a))) (o := 0) (n := ((isort ltD (lnkOf L a)).length)) (dt0 rfl (Nat.le_refl _)) hx52 (by first | rfl | omega | (simp only [List.length_nil]; omega) | (simp; done) | (simp; omega))) (by kernel_rfl)) (And.intro (ob_alloc (P := pg) (A := an) (H := H49) (t := 24) (ty := 0) (n := n53) (cs := [vi 0, vi 0]) hn53 (by kernel_rfl)) (And.intro (ob_store_ptr (P := pg) (A := an) (H := (H49 ++ [.obj [vi 0, vi 0]])) (t := 24) (ty := 0) (id := n53) (off := 0) (cs := [vi 0, vi 0]) (cs' := [vi x52.1, vi x52.2.1]) (v := .agg [vi x52.1, vi x52.2.1]) (On.at (On.new' hn53 (.obj [vi 0, vi 0]) hs50) 8 rfl) (by kernel_rfl) (by kernel_rfl) (by kernel_rfl)) trivial)))) (by kernel_rfl)) (by kernel_rfl) ?_
   refine Wp.gen (cs := [R, pts n1 (.obj [vi a.1, vi a.2.1]), pts tt (.obj [.mp l, .mp mo]), pts mo (monO M), ownP NI c12 (isort ltI (refOf (q35 a) M)), ownP TT5 c17 ((isort ltI (refOf (q35 a) M)).map (toldOf M)), pts k27 (rowO PD true 0 (isort ltD (lnkOf L a))), pts l (lnkO (delsL L a ((isort ltD (lnkOf L a)).take (i1 : Int).toNat))), pts n53 (.obj [vi x52.1, vi x52.2.1])]) (On.put (.obj [vi x52.1, vi x52.2.1]) (On.new' hn53 (.obj [vi 0, vi 0]) hs50) 8 rfl) ?_
   intro H54 hs55
   obtain ⟨⟨ho56, ho57⟩, ⟨ho58, ho59⟩⟩ := lnk_bounds hLo hx52
   obtain ⟨q60, hq61⟩ : ∃ q, q = pairOf a x52 := ⟨_, rfl⟩
   refine Wp.regionK [(3, .y (.one (.mp l)), H54), (4, .y (.agg [vi a.1, vi a.2.1]), H54), (5, .y (.agg [vi x52.1, vi x52.2.1]), H54), (6, .y (.agg [vi q60.1.1, vi q60.1.2.1, vi q60.2.1.1, vi q60.2.1.2.1]), H54), (7, .tup [], (List.set (α := O) H54 l (lnkO (ldel (delsL L a ((isort ltD (lnkOf L a)).take (i1 : Int).toNat)) q60))))] [(0, .y (.one (.ptr tt 0))), (3, .y (.one (.ptr n1 0))), (6, .y (.one (rowC k27 0 (isort ltD (lnkOf L a)).length 0 ((isort ltD (lnkOf L a)).length) false))), (7, .y (.one (c17))), (23, .y (.one (rowC k27 0 (isort ltD (lnkOf L a)).length 0 ((isort ltD (lnkOf L a)).length) false))), (24, xi ((isort ltD (lnkOf L a)).length : Int)), (25, xi i1)] (List.set (α := O) H54 l (lnkO (ldel (delsL L a ((isort ltD (lnkOf L a)).take (i1 : Int).toNat)) q60)))
     (cast (And.intro (ob_load_ptr (P := pg) (A := an) (H := H54) (t := 58) (ty := 0) (id := tt) (off := 0) (n := 1) (cs := [.mp l, .mp mo]) (cs' := [.mp l]) (v := .one (.mp l)) (On.at hs55 2 rfl) (by kernel_rfl) (by kernel_rfl) (by kernel_rfl) (by kernel_rfl)) (And.intro (ob_load_ptr (P := pg) (A := an) (H := H54) (t := 24) (ty := 0) (id := n1) (off := 0) (n := 2) (cs := [vi a.1, vi a.2.1]) (cs' := [vi a.1, vi a.2.1]) (v := .agg [vi a.1, vi a.2.1]) (On.at hs55 1 rfl) (by kernel_rfl) (by kernel_rfl) (by kernel_rfl) (by kernel_rfl)) (And.intro (ob_load_ptr (P := pg) (A := an) (H := H54) (t := 24) (ty := 0) (id := n53) (off := 0) (n := 2) (cs := [vi x52.1, vi x52.2.1]) (cs' := [vi x52.1, vi x52.2.1]) (v := .agg [vi x52.1, vi x52.2.1]) (On.at hs55 8 rfl) (by kernel_rfl) (by kernel_rfl) (by kernel_rfl) (by kernel_rfl)) (And.intro (ob_pure (P := pg) (A := an) (H := H54) (g := 27) (vals := [.y (.agg [vi a.1, vi a.2.1]), .y (.agg [vi x52.1, vi x52.2.1])]) (xs0 := [.agg [vi a.1, vi a.2.1], .agg [vi x52.1, vi x52.2.1]]) (xs1 := [.agg [vi a.1, vi a.2.1], .agg [vi x52.1, vi x52.2.1]]) (res := [.agg [vi q60.1.1, vi q60.1.2.1, vi q60.2.1.1, vi q60.2.1.2.1]]) (ats := #[]) (ty := 0) (v := .y (.agg [vi q60.1.1, vi q60.1.2.1, vi q60.2.1.1, vi q60.2.1.2.1])) [.tmp 0, .tmp 1] (by kernel_rfl) (by kernel_rfl) (snap_cons (by kernel_rfl) (snap_cons (by kernel_rfl) (snap_nil))) (paired_q a x52 q60 hq61 (by omega) (by omega) (by omega) (by omega)) (by kernel_rfl)) (And.intro (lk_del (A := an) (H := H54) (id := l) (es := (delsL L a ((isort ltD (lnkOf L a)).take (i1 : Int).toNat))) (x := q60) (On.at hs55 7 rfl) (delsL_nd _ hL) (ts := #[58, 67]) rfl) trivial))))) (by kernel_rfl)) (by kernel_rfl) ?_
   refine Wp.gen (cs := [R, pts n1 (.obj [vi a.1, vi a.2.1]), pts tt (.obj [.mp l, .mp mo]), pts mo (monO M), ownP NI c12 (isort ltI (refOf (q35 a) M)), ownP TT5 c17 ((isort ltI (refOf (q35 a) M)).map (toldOf M)), pts k27 (rowO PD true 0 (isort ltD (lnkOf L a))), pts l (lnkO (ldel (delsL L a ((isort ltD (lnkOf L a)).take (i1 : Int).toNat)) q60)), pts n53 (.obj [vi x52.1, vi x52.2.1])]) (On.put (lnkO (ldel (delsL L a ((isort ltD (lnkOf L a)).take (i1 : Int).toNat)) q60)) hs55 7 rfl) ?_
   intro H62 hs63
   refine Wp.skip ?_
   refine Wp.region [(0, xi (i1 + 1), H62)] [(0, .y (.one (.ptr tt 0))), (3, .y (.one (.ptr n1 0))), (6, .y (.one (rowC k27 0 (isort ltD (lnkOf L a)).length 0 ((isort ltD (lnkOf L a)).length) false))), (7, .y (.one (c17))), (23, .y (.one (rowC k27 0 (isort ltD (lnkOf L a)).length 0 ((isort ltD (lnkOf L a)).length) false))), (24, xi ((isort ltD (lnkOf L a)).length : Int)), (25, xi (i1 + 1))] H62
     (cast (And.intro (ob_raw (P := pg) (A := an) (vals := [xi i1, xi 1]) (H := H62) (op := .binOp .add 3 (.tmp 0) (.tmp 1) 3) (ty := 0) (r := xi (IntKind.wrap .i64 (i1 + 1))) (v := xi (i1 + 1)) (by kernel_rfl) (congrArg (fun z => xi z) ((wrap64 (by omega)).trans (by omega)))) trivial) (by kernel_rfl)) (by kernel_rfl) ?_
   exact ⟨(H62, (i1 + 1)), by kernel_rfl, (⟨(On.pick [0, 1, 2, 3, 4, 5, 6, 7] [8] (by kernel_rfl) (On.mono (A' := pts l (lnkO (delsL L a ((isort ltD (lnkOf L a)).take ((i1 + 1) : Int).toNat)))) 7 rfl (fun _ x => by rw [← (show (ldel (delsL L a ((isort ltD (lnkOf L a)).take (i1 : Int).toNat)) q60) = (delsL L a ((isort ltD (lnkOf L a)).take ((i1 + 1) : Int).toNat)) from by rw [hq61]; exact delsL_step hi11 hx52)]; exact x) hs63)), by omega, by omega⟩), (by show (_ : Nat) < _; simp only []; omega)⟩
  ·
   refine Wp.regionSeq [(0, xb false, H49)] [(0, .y (.one (.ptr tt 0))), (3, .y (.one (.ptr n1 0))), (6, .y (.one (rowC k27 0 (isort ltD (lnkOf L a)).length 0 ((isort ltD (lnkOf L a)).length) false))), (7, .y (.one (c17))), (23, .y (.one (rowC k27 0 (isort ltD (lnkOf L a)).length 0 ((isort ltD (lnkOf L a)).length) false))), (24, xi ((isort ltD (lnkOf L a)).length : Int)), (25, xi i1), (26, xb false)] H49
     (cast (And.intro (ob_raw (P := pg) (A := an) (vals := [xi i1, xi ((isort ltD (lnkOf L a)).length : Int)]) (H := H49) (op := .binOp .lss 3 (.tmp 0) (.tmp 1) 3) (ty := 0) (r := xb (decide (ILt (i1) (((isort ltD (lnkOf L a)).length : Int))))) (v := xb false) (by kernel_rfl) (congrArg (fun z => xb z) (decide_eq_false (by omega)))) trivial) (by kernel_rfl)) (by kernel_rfl) ?_
   refine Wp.seq ?_
   refine Wp.condF (by kernel_rfl) ?_
   refine Wp.exit ?_
   refine Eq.mpr (if_pos rfl) ?_
   refine Wp.seq ?_
   obtain ⟨_, H66, hr67, c64, rfl, hs68⟩ := refs_c (A := an) rfl rfl 36 (q36 a) _ (H49 : Go.Lg.Heap) tt l mo n1 M a (On.call [2, 3, 1] [0, 4, 5, 6, 7] (by kernel_rfl) hs50) q36_of hU nM
   have hs68 : On [R, ownP NI c12 (isort ltI (refOf (q35 a) M)), ownP TT5 c17 ((isort ltI (refOf (q35 a) M)).map (toldOf M)), pts k27 (rowO PD true 0 (isort ltD (lnkOf L a))), pts l (lnkO (delsL L a ((isort ltD (lnkOf L a)).take (i1 : Int).toNat))), pts tt (.obj [.mp l, .mp mo]), pts mo (monO M), pts n1 (.obj [vi a.1, vi a.2.1]), ownP NI c64 (isort ltI (refOf (q36 a) M))] H66 := On.flat hs68
   have hz65 : ((isort ltI (refOf (q36 a) M)).length : Int) ≤ (M.length : Int) := lenIM (q36 a) M
   refine Wp.regionSeq [(2, .y (.one (c64)), H66), (3, xi ((isort ltI (refOf (q36 a) M)).length : Int), H66)] [(0, .y (.one (.ptr tt 0))), (6, .y (.one (rowC k27 0 (isort ltD (lnkOf L a)).length 0 ((isort ltD (lnkOf L a)).length) false))), (7, .y (.one (c17))), (39, .y (.one (c64))), (40, xi ((isort ltI (refOf (q36 a) M)).length : Int)), (41, xi 0)] H66
     (cast (And.intro (ob_call (P := pg) (A := an) (H := H49) (g := 34) (vals := [.y (.one (.ptr tt 0)), .y (.one (.fn (.func 36) [] [.ptr n1 0]))]) (xs0 := [.one (.ptr tt 0), .one (.fn (.func 36) [] [.ptr n1 0])]) (res := [.one (c64)]) (ats := #[]) (ty := 0) (v := .y (.one (c64))) (H' := H66) [.tmp 0, .tmp 1] (by kernel_rfl) (by kernel_rfl) hr67 (by kernel_rfl)) (And.intro (ob_len_own (P := pg) (A := an) (s := NI) (c := c64) (l := (isort ltI (refOf (q36 a) M))) (t := 75) (ty := 0) (e := ((isort ltI (refOf (q36 a) M)).length : Int)) hs68 8 rfl (by kernel_rfl) rfl) trivial)) (by kernel_rfl)) (by kernel_rfl) ?_
   refine Wp.gen (cs := [R, ownP NI c12 (isort ltI (refOf (q35 a) M)), ownP TT5 c17 ((isort ltI (refOf (q35 a) M)).map (toldOf M)), pts k27 (rowO PD true 0 (isort ltD (lnkOf L a))), pts l (lnkO (delsL L a ((isort ltD (lnkOf L a)).take (i1 : Int).toNat))), pts tt (.obj [.mp l, .mp mo]), pts mo (monO M), pts n1 (.obj [vi a.1, vi a.2.1]), ownP NI c64 (isort ltI (refOf (q36 a) M))]) hs68 ?_
   intro H69 hs70
   refine Wp.block ?_
   obtain ⟨rfl, hl73, hs71⟩ | ⟨k74, rfl, k74z, hs72⟩ := own_open hs70 8 rfl
   ·
    have hl73n : ((isort ltI (refOf (q36 a) M)).length : Int) = 0 := by rw [hl73]; rfl
    refine Wp.loopU [(0, .y (.one (.ptr tt 0))), (6, .y (.one (rowC k27 0 (isort ltD (lnkOf L a)).length 0 ((isort ltD (lnkOf L a)).length) false))), (7, .y (.one (c17))), (39, .y (.one (.sl false true true [] 0))), (40, xi ((isort ltI (refOf (q36 a) M)).length : Int)), (41, xi 0)] (some ([0, 6, 7, 39, 40, 41], false)) (List.length H69) (by kernel_rfl) ?_
    refine WpL.step ?_
    refine Wp.regionSeq [(0, xb false, H69)] [(0, .y (.one (.ptr tt 0))), (6, .y (.one (rowC k27 0 (isort ltD (lnkOf L a)).length 0 ((isort ltD (lnkOf L a)).length) false))), (7, .y (.one (c17))), (39, .y (.one (.sl false true true [] 0))), (40, xi ((isort ltI (refOf (q36 a) M)).length : Int)), (41, xi 0), (42, xb false)] H69
      (cast (And.intro (ob_raw (P := pg) (A := an) (vals := [xi 0, xi ((isort ltI (refOf (q36 a) M)).length : Int)]) (H := H69) (op := .binOp .lss 3 (.tmp 0) (.tmp 1) 3) (ty := 0) (r := xb (decide (ILt (0) (((isort ltI (refOf (q36 a) M)).length : Int))))) (v := xb false) (by kernel_rfl) (congrArg (fun z => xb z) (decide_eq_false (by omega)))) trivial) (by kernel_rfl)) (by kernel_rfl) ?_
    refine Wp.seq ?_
    refine Wp.condF (by kernel_rfl) ?_
    refine Wp.exit ?_
    refine Eq.mpr (if_pos rfl) ?_
    refine Wp.regionSeq [] [(4, .y (.one (rowC k27 0 (isort ltD (lnkOf L a)).length 0 ((isort ltD (lnkOf L a)).length) false))), (5, .y (.one (c17)))] H69
      (cast trivial (by kernel_rfl)) (by kernel_rfl) ?_
    refine Wp.ret ?_
    refine ⟨Or.inr rfl, [.one (rowC k27 0 (isort ltD (lnkOf L a)).length 0 ((isort ltD (lnkOf L a)).length) false), .one (c17)], (by kernel_rfl), ?_⟩
    have hs75 : On [R, ownP NI c12 (isort ltI (refOf (q35 a) M)), ownP TT5 c17 ((isort ltI (refOf (q35 a) M)).map (toldOf M)), pts l (lnkO (goneL L a)), pts tt (.obj [.mp l, .mp mo]), pts mo (monO (goneM M a)), pts n1 (.obj [vi a.1, vi a.2.1]), ownP PD (rowC k27 0 (isort ltD (lnkOf L a)).length 0 ((isort ltD (lnkOf L a)).length) false) (isort ltD (lnkOf L a))] H69 := On.shut (cs := [R, ownP NI c12 (isort ltI (refOf (q35 a) M)), ownP TT5 c17 ((isort ltI (refOf (q35 a) M)).map (toldOf M)), pts k27 (rowO PD true 0 (isort ltD (lnkOf L a))), pts l (lnkO (goneL L a)), pts tt (.obj [.mp l, .mp mo]), pts mo (monO (goneM M a)), pts n1 (.obj [vi a.1, vi a.2.1])]) [3] [0, 1, 2, 4, 5, 6, 7] (by kernel_rfl) (fun _ x => by rw [show (isort ltD (lnkOf L a)) = (isort ltD (lnkOf L a)) from rfl]; exact own_row (by first | assumption | (simp; done)) x) (On.mono (A' := pts mo (monO (goneM M a))) 6 rfl (fun _ x => by rw [← (show M = (goneM M a) from by unfold goneM; rw [hl73]; rfl)]; exact x) (On.mono (A' := pts l (lnkO (goneL L a))) 4 rfl (fun _ x => by rw [← (show (delsL L a ((isort ltD (lnkOf L a)).take (i1 : Int).toNat)) = (goneL L a) from delsL_end (by omega))]; exact x) hs71))
    exact ⟨(rowC k27 0 (isort ltD (lnkOf L a)).length 0 ((isort ltD (lnkOf L a)).length) false), c17, rfl, (On.pick [0, 4, 3, 5, 7, 2] [1, 6] (by kernel_rfl) (On.mono (A' := ownP TT5 c17 (toldG M a)) 2 rfl (fun _ x => by rw [← (show ((isort ltI (refOf (q35 a) M)).map (toldOf M)) = (toldG M a) from rfl)]; exact x) hs75))⟩
   ·
    refine Wp.loop (T := Go.Lg.Heap × Int) (fun (t : Go.Lg.Heap × Int) => match t with | (H77, i2) => ((((isort ltI (refOf (q36 a) M)).length : Int) - i2).toNat : Nat)) (fun (t : Go.Lg.Heap × Int) => match t with | (H77, i2) => ([(0, .y (.one (.ptr tt 0))), (6, .y (.one (rowC k27 0 (isort ltD (lnkOf L a)).length 0 ((isort ltD (lnkOf L a)).length) false))), (7, .y (.one (c17))), (39, .y (.one (rowC k74 0 (isort ltI (refOf (q36 a) M)).length 0 ((isort ltI (refOf (q36 a) M)).length) false))), (40, xi ((isort ltI (refOf (q36 a) M)).length : Int)), (41, xi i2)] : Env)) (fun (t : Go.Lg.Heap × Int) => match t with | (H77, i2) => (H77 : Go.Lg.Heap))
      (fun (t : Go.Lg.Heap × Int) => match t with | (H77, i2) => (On [R, ownP NI c12 (isort ltI (refOf (q35 a) M)), ownP TT5 c17 ((isort ltI (refOf (q35 a) M)).map (toldOf M)), pts k27 (rowO PD true 0 (isort ltD (lnkOf L a))), pts l (lnkO (delsL L a ((isort ltD (lnkOf L a)).take (i1 : Int).toNat))), pts tt (.obj [.mp l, .mp mo]), pts n1 (.obj [vi a.1, vi a.2.1]), pts k74 (rowO NI true 0 (isort ltI (refOf (q36 a) M))), pts mo (monO (delsM M ((isort ltI (refOf (q36 a) M)).take (i2 : Int).toNat)))] H77 ∧ (0 ≤ i2) ∧ (i2 ≤ ((isort ltI (refOf (q36 a) M)).length : Int)) : Prop)) (H69, 0) (by kernel_rfl) (⟨(On.pick [0, 1, 2, 3, 4, 5, 7, 8, 6] [] (by kernel_rfl) (On.mono (A' := pts mo (monO (delsM M ((isort ltI (refOf (q36 a) M)).take (0 : Int).toNat)))) 6 rfl (fun _ x => by rw [← (show M = (delsM M ((isort ltI (refOf (q36 a) M)).take (0 : Int).toNat)) from rfl)]; exact x) hs72)), by omega, by omega⟩) ?_
    rintro ⟨H77, i2⟩ ⟨hs78, hi21, hi22⟩
    show Wp _ _ _ _ [(0, .y (.one (.ptr tt 0))), (6, .y (.one (rowC k27 0 (isort ltD (lnkOf L a)).length 0 ((isort ltD (lnkOf L a)).length) false))), (7, .y (.one (c17))), (39, .y (.one (rowC k74 0 (isort ltI (refOf (q36 a) M)).length 0 ((isort ltI (refOf (q36 a) M)).length) false))), (40, xi ((isort ltI (refOf (q36 a) M)).length : Int)), (41, xi i2)] H77 _
    rcases ilt (i2) (((isort ltI (refOf (q36 a) M)).length : Int)) with c79 | c79
    ·
     refine Wp.regionSeq [(0, xb true, H77)] [(0, .y (.one (.ptr tt 0))), (6, .y (.one (rowC k27 0 (isort ltD (lnkOf L a)).length 0 ((isort ltD (lnkOf L a)).length) false))), (7, .y (.one (c17))), (39, .y (.one (rowC k74 0 (isort ltI (refOf (q36 a) M)).length 0 ((isort ltI (refOf (q36 a) M)).length) false))), (40, xi ((isort ltI (refOf (q36 a) M)).length : Int)), (41, xi i2), (42, xb true)] H77
       (cast (And.intro (ob_raw (P := pg) (A := an) (vals := [xi i2, xi ((isort ltI (refOf (q36 a) M)).length : Int)]) (H := H77) (op := .binOp .lss 3 (.tmp 0) (.tmp 1) 3) (ty := 0) (r := xb (decide (ILt (i2) (((isort ltI (refOf (q36 a) M)).length : Int))))) (v := xb true) (by kernel_rfl) (congrArg (fun z => xb z) (decide_eq_true (by omega)))) trivial) (by kernel_rfl)) (by kernel_rfl) ?_
     refine Wp.seq ?_
     refine Wp.condT (by kernel_rfl) ?_
     refine Wp.skip ?_
     refine Wp.seq ?_
     refine Wp.block ?_
     obtain ⟨x80, hx80⟩ : ∃ x : Int, (isort ltI (refOf (q36 a) M))[(i2 : Int).toNat]? = some x := get_of (by first | rfl | omega | (simp only [List.length_nil]; omega) | (simp; done) | (simp; omega))
     refine Wp.regionSeq [(0, .y (.one (raC k74 0 (isort ltI (refOf (q36 a) M)).length 1 ((i2 : Int).toNat) 0)), H77), (1, xi x80, H77)] [(0, .y (.one (.ptr tt 0))), (6, .y (.one (rowC k27 0 (isort ltD (lnkOf L a)).length 0 ((isort ltD (lnkOf L a)).length) false))), (7, .y (.one (c17))), (11, xi x80), (39, .y (.one (rowC k74 0 (isort ltI (refOf (q36 a) M)).length 0 ((isort ltI (refOf (q36 a) M)).length) false))), (40, xi ((isort ltI (refOf (q36 a) M)).length : Int)), (41, xi i2)] H77
       (cast (And.intro (or_index (P := pg) (A := an) (H := H77) (s := NI) (t := 75) (el := 3) (ty := 0) (pu := true) (capd := false) (id := k74) (d := 0) (o := 0) (n := ((isort ltI (refOf (q36 a) M)).length)) (j := ((i2 : Int).toNat)) (l := (isort ltI (refOf (q36 a) M))) (i := i2) (On.at hs78 7 rfl) Try.underlying75 (by kernel_rfl) (by omega) (by first | rfl | omega | (simp only [List.length_nil]; omega) | (simp; done) | (simp; omega)) (by first | rfl | omega | (simp only [List.length_nil]; omega) | (simp; done) | (simp; omega)) (by first | rfl | omega | (simp only [List.length_nil]; omega) | (simp; done) | (simp; omega))) (And.intro (or_load (P := pg) (A := an) (H := H77) (s := NI) (t := 3) (ty := 0) (pu := true) (id := k74) (d := 0) (j := ((i2 : Int).toNat)) (o := 0) (n := 1) (l := (isort ltI (refOf (q36 a) M))) (x := x80) (v := .one (vi x80)) (On.at hs78 7 rfl) (by kernel_rfl) (by kernel_rfl) (of_content (L := (isort ltI (refOf (q36 a) M))) (o := 0) (n := ((isort ltI (refOf (q36 a) M)).length)) (dt0 rfl (Nat.le_refl _)) hx80 (by first | rfl | omega | (simp only [List.length_nil]; omega) | (simp; done) | (simp; omega))) (by kernel_rfl)) trivial)) (by kernel_rfl)) (by kernel_rfl) ?_
     refine Wp.regionK [(3, .y (.one (.mp mo)), H77), (5, .tup [], (List.set (α := O) H77 mo (monO (mdel (delsM M ((isort ltI (refOf (q36 a) M)).take (i2 : Int).toNat)) x80))))] [(0, .y (.one (.ptr tt 0))), (6, .y (.one (rowC k27 0 (isort ltD (lnkOf L a)).length 0 ((isort ltD (lnkOf L a)).length) false))), (7, .y (.one (c17))), (39, .y (.one (rowC k74 0 (isort ltI (refOf (q36 a) M)).length 0 ((isort ltI (refOf (q36 a) M)).length) false))), (40, xi ((isort ltI (refOf (q36 a) M)).length : Int)), (41, xi i2)] (List.set (α := O) H77 mo (monO (mdel (delsM M ((isort ltI (refOf (q36 a) M)).take (i2 : Int).toNat)) x80)))
       (cast (And.intro (ob_load_ptr (P := pg) (A := an) (H := H77) (t := 59) (ty := 0) (id := tt) (off := 1) (n := 1) (cs := [.mp l, .mp mo]) (cs' := [.mp mo]) (v := .one (.mp mo)) (On.at hs78 5 rfl) (by kernel_rfl) (by kernel_rfl) (by kernel_rfl) (by kernel_rfl)) (And.intro (mo_del (A := an) (H := H77) (id := mo) (ms := (delsM M ((isort ltI (refOf (q36 a) M)).take (i2 : Int).toNat))) (r := x80) (On.at hs78 8 rfl) (delsM_uq _ hU) (ts := #[59, 3]) rfl) trivial)) (by kernel_rfl)) (by kernel_rfl) ?_
     refine Wp.gen (cs := [R, ownP NI c12 (isort ltI (refOf (q35 a) M)), ownP TT5 c17 ((isort ltI (refOf (q35 a) M)).map (toldOf M)), pts k27 (rowO PD true 0 (isort ltD (lnkOf L a))), pts l (lnkO (delsL L a ((isort ltD (lnkOf L a)).take (i1 : Int).toNat))), pts tt (.obj [.mp l, .mp mo]), pts n1 (.obj [vi a.1, vi a.2.1]), pts k74 (rowO NI true 0 (isort ltI (refOf (q36 a) M))), pts mo (monO (mdel (delsM M ((isort ltI (refOf (q36 a) M)).take (i2 : Int).toNat)) x80))]) (On.put (monO (mdel (delsM M ((isort ltI (refOf (q36 a) M)).take (i2 : Int).toNat)) x80)) hs78 8 rfl) ?_
     intro H81 hs82
     refine Wp.skip ?_
     refine Wp.region [(0, xi (i2 + 1), H81)] [(0, .y (.one (.ptr tt 0))), (6, .y (.one (rowC k27 0 (isort ltD (lnkOf L a)).length 0 ((isort ltD (lnkOf L a)).length) false))), (7, .y (.one (c17))), (39, .y (.one (rowC k74 0 (isort ltI (refOf (q36 a) M)).length 0 ((isort ltI (refOf (q36 a) M)).length) false))), (40, xi ((isort ltI (refOf (q36 a) M)).length : Int)), (41, xi (i2 + 1))] H81
       (cast (And.intro (ob_raw (P := pg) (A := an) (vals := [xi i2, xi 1]) (H := H81) (op := .binOp .add 3 (.tmp 0) (.tmp 1) 3) (ty := 0) (r := xi (IntKind.wrap .i64 (i2 + 1))) (v := xi (i2 + 1)) (by kernel_rfl) (congrArg (fun z => xi z) ((wrap64 (by omega)).trans (by omega)))) trivial) (by kernel_rfl)) (by kernel_rfl) ?_
     exact ⟨(H81, (i2 + 1)), by kernel_rfl, (⟨(On.pick [0, 1, 2, 3, 4, 5, 6, 7, 8] [] (by kernel_rfl) (On.mono (A' := pts mo (monO (delsM M ((isort ltI (refOf (q36 a) M)).take ((i2 + 1) : Int).toNat)))) 8 rfl (fun _ x => by rw [← (show (mdel (delsM M ((isort ltI (refOf (q36 a) M)).take (i2 : Int).toNat)) x80) = (delsM M ((isort ltI (refOf (q36 a) M)).take ((i2 + 1) : Int).toNat)) from delsM_step hi21 hx80)]; exact x) hs82)), by omega, by omega⟩), (by show (_ : Nat) < _; simp only []; omega)⟩
    ·
     refine Wp.regionSeq [(0, xb false, H77)] [(0, .y (.one (.ptr tt 0))), (6, .y (.one (rowC k27 0 (isort ltD (lnkOf L a)).length 0 ((isort ltD (lnkOf L a)).length) false))), (7, .y (.one (c17))), (39, .y (.one (rowC k74 0 (isort ltI (refOf (q36 a) M)).length 0 ((isort ltI (refOf (q36 a) M)).length) false))), (40, xi ((isort ltI (refOf (q36 a) M)).length : Int)), (41, xi i2), (42, xb false)] H77
       (cast (And.intro (ob_raw (P := pg) (A := an) (vals := [xi i2, xi ((isort ltI (refOf (q36 a) M)).length : Int)]) (H := H77) (op := .binOp .lss 3 (.tmp 0) (.tmp 1) 3) (ty := 0) (r := xb (decide (ILt (i2) (((isort ltI (refOf (q36 a) M)).length : Int))))) (v := xb false) (by kernel_rfl) (congrArg (fun z => xb z) (decide_eq_false (by omega)))) trivial) (by kernel_rfl)) (by kernel_rfl) ?_
     refine Wp.seq ?_
     refine Wp.condF (by kernel_rfl) ?_
     refine Wp.exit ?_
     refine Eq.mpr (if_pos rfl) ?_
     refine Wp.regionSeq [] [(4, .y (.one (rowC k27 0 (isort ltD (lnkOf L a)).length 0 ((isort ltD (lnkOf L a)).length) false))), (5, .y (.one (c17)))] H77
       (cast trivial (by kernel_rfl)) (by kernel_rfl) ?_
     refine Wp.ret ?_
     refine ⟨Or.inr rfl, [.one (rowC k27 0 (isort ltD (lnkOf L a)).length 0 ((isort ltD (lnkOf L a)).length) false), .one (c17)], (by kernel_rfl), ?_⟩
     have hs83 : On [R, ownP NI c12 (isort ltI (refOf (q35 a) M)), ownP TT5 c17 ((isort ltI (refOf (q35 a) M)).map (toldOf M)), pts l (lnkO (goneL L a)), pts tt (.obj [.mp l, .mp mo]), pts n1 (.obj [vi a.1, vi a.2.1]), pts k74 (rowO NI true 0 (isort ltI (refOf (q36 a) M))), pts mo (monO (goneM M a)), ownP PD (rowC k27 0 (isort ltD (lnkOf L a)).length 0 ((isort ltD (lnkOf L a)).length) false) (isort ltD (lnkOf L a))] H77 := On.shut (cs := [R, ownP NI c12 (isort ltI (refOf (q35 a) M)), ownP TT5 c17 ((isort ltI (refOf (q35 a) M)).map (toldOf M)), pts k27 (rowO PD true 0 (isort ltD (lnkOf L a))), pts l (lnkO (goneL L a)), pts tt (.obj [.mp l, .mp mo]), pts n1 (.obj [vi a.1, vi a.2.1]), pts k74 (rowO NI true 0 (isort ltI (refOf (q36 a) M))), pts mo (monO (goneM M a))]) [3] [0, 1, 2, 4, 5, 6, 7, 8] (by kernel_rfl) (fun _ x => by rw [show (isort ltD (lnkOf L a)) = (isort ltD (lnkOf L a)) from rfl]; exact own_row (by first | assumption | (simp; done)) x) (On.mono (A' := pts mo (monO (goneM M a))) 8 rfl (fun _ x => by rw [← (show (delsM M ((isort ltI (refOf (q36 a) M)).take (i2 : Int).toNat)) = (goneM M a) from delsM_end (by omega))]; exact x) (On.mono (A' := pts l (lnkO (goneL L a))) 4 rfl (fun _ x => by rw [← (show (delsL L a ((isort ltD (lnkOf L a)).take (i1 : Int).toNat)) = (goneL L a) from delsL_end (by omega))]; exact x) hs78))
     exact ⟨(rowC k27 0 (isort ltD (lnkOf L a)).length 0 ((isort ltD (lnkOf L a)).length) false), c17, rfl, (On.pick [0, 4, 3, 7, 8, 2] [1, 5, 6] (by kernel_rfl) (On.mono (A' := ownP TT5 c17 (toldG M a)) 2 rfl (fun _ x => by rw [← (show ((isort ltI (refOf (q35 a) M)).map (toldOf M)) = (toldG M a) from rfl)]; exact x) hs83))⟩
end Go.Proofs.Ytjhgjbagmkiibaa.E
