/- Lemmas. -/
import Derived.Test.YtjhgjbagmkiibaaR15EA
section
namespace Go.Proofs.Ytjhgjbagmkiibaa.E
open Go.Lg
set_option linter.unusedVariables false
set_option maxRecDepth 100000
set_option maxHeartbeats 8000000
set_option linter.unusedSimpArgs false
theorem own_items' {s : Sh} {cs : List HP} {H : HH} {c : C} {l : List s.T} (hs : On cs H) (j : Nat) (hj : cs[j]? = some (ownP s c l)) : On (cs.set j (itemsP s c l)) H ∧ (cs.set j (itemsP s c l))[j]? = some (itemsP s c l) :=
  ⟨On.mono (A' := itemsP s c l) j hj (fun _ x => own_items x) hs, by rw [List.getElem?_set_self (List.getElem?_eq_some_iff.1 hj).1]⟩
theorem own_snap {s : Sh} {cs : List HP} {H : HH} {c : C} {l : List s.T} (hs : On cs H) (j : Nat) (hj : cs[j]? = some (ownP s c l)) : ∃ b n p, snapC H c = some (sv s b n p l) := items_snap (own_items' hs j hj).1 j (own_items' hs j hj).2
theorem own_back {s : Sh} {cs : List HP} {H : HH} {c : C} {l : List s.T} (hs : On cs H) (j : Nat) (hj : cs[j]? = some (ownP s c l)) : ∃ n p, backC H c = some (sv s false n p l) := items_back (own_items' hs j hj).1 j (own_items' hs j hj).2
theorem ob_len_own {P : Program} {A : Ann} {t ty : TypeId} {s : Sh} {cs : List HP} {H : HH} {c : C} {l : List s.T} {e : Int} (hs : On cs H) (j : Nat) (hj : cs[j]? = some (ownP s c l)) (ht : (elemT P t).isSome = true) (hn : (l.length : Int) = e) :
    Ob P A [.y (.one c)] H (.call { callee := .builtin .len, args := #[.tmp 0], argTypes := #[t] }) ty (.y (.one (.sc (.int .i64 e)))) H := ob_len_items (own_items' hs j hj).1 j (own_items' hs j hj).2 ht hn
def delsL (L : List PR.T) (a : PD.T) (ds : List PD.T) : List PR.T := ds.foldl (fun L b => ldel L (pairOf a b)) L
def delsM (M : List TI.T) (rs : List Int) : List TI.T := rs.foldl mdel M
def goneL (L : List PR.T) (a : PD.T) : List PR.T := delsL L a (isort ltD (lnkOf L a))
def goneM (M : List TI.T) (a : PD.T) : List TI.T := delsM M (isort ltI (refOf (q36 a) M))
def toldG (M : List TI.T) (a : PD.T) : List TT5.T := (isort ltI (refOf (q35 a) M)).map (toldOf M)
theorem delsL_nd {a : PD.T} : ∀ {L : List PR.T} (ds : List PD.T), L.Nodup → (delsL L a ds).Nodup
  | _, [], h => h
  | _, _ :: ds, h => delsL_nd ds (h.filter _)
theorem delsM_uq : ∀ {M : List TI.T} (rs : List Int), Uniq M → Uniq (delsM M rs)
  | _, [], h => h
  | _, _ :: rs, h => delsM_uq rs (h.sublist (List.filter_sublist.map _))
theorem delsL_step {L : List PR.T} {a b : PD.T} {ds : List PD.T} {i : Int} (h0 : 0 ≤ i) (hb : ds[i.toNat]? = some b) : ldel (delsL L a (ds.take i.toNat)) (pairOf a b) = delsL L a (ds.take (i + 1).toNat) := by
  rw [show (i + 1).toNat = i.toNat + 1 by omega, List.take_add_one, hb]
  unfold delsL
  rw [List.foldl_append]
  rfl
theorem delsM_step {M : List TI.T} {r : Int} {rs : List Int} {i : Int} (h0 : 0 ≤ i) (hb : rs[i.toNat]? = some r) : mdel (delsM M (rs.take i.toNat)) r = delsM M (rs.take (i + 1).toNat) := by
  rw [show (i + 1).toNat = i.toNat + 1 by omega, List.take_add_one, hb]
  unfold delsM
  rw [List.foldl_append]
  rfl
theorem delsL_end {L : List PR.T} {a : PD.T} {ds : List PD.T} {i : Int} (h : (ds.length : Int) ≤ i) : delsL L a (ds.take i.toNat) = delsL L a ds := by rw [List.take_of_length_le (by omega)]
theorem delsM_end {M : List TI.T} {rs : List Int} {i : Int} (h : (rs.length : Int) ≤ i) : delsM M (rs.take i.toNat) = delsM M rs := by rw [List.take_of_length_le (by omega)]
theorem lnk_mem {L : List PR.T} {a b : PD.T} (h : b ∈ isort ltD (lnkOf L a)) : ∃ p ∈ L, (p.1 = a ∧ p.2.1 = b) ∨ (p.2.1 = a ∧ p.1 = b) := by
  have h := (isort_perm ltD _).subset h
  obtain ⟨p, hp, h⟩ := List.mem_filterMap.1 h
  refine ⟨p, hp, ?_⟩
  split at h
  · rename_i e; cases h; exact .inl ⟨eqb_eq rfl e, rfl⟩
  · split at h
    · rename_i e; cases h; exact .inr ⟨eqb_eq rfl e, rfl⟩
    · cases h
theorem okD_is {a : PD.T} (h : okD a = true) : ILe 0 a.1 ∧ ILt a.1 256 := of_decide_eq_true h
theorem lnk_bounds {L : List PR.T} {a b : PD.T} {i : Nat} (hok : L.all okL = true) (h : (isort ltD (lnkOf L a))[i]? = some b) : (ILe 0 a.1 ∧ ILt a.1 256) ∧ (ILe 0 b.1 ∧ ILt b.1 256) := by
  obtain ⟨p, hp, h⟩ := lnk_mem (List.mem_of_getElem? h)
  have ho := List.all_eq_true.1 hok p hp
  simp only [okL, Bool.and_eq_true] at ho
  rcases h with ⟨rfl, rfl⟩ | ⟨rfl, rfl⟩
  · exact ⟨okD_is ho.1, okD_is ho.2⟩
  · exact ⟨okD_is ho.2, okD_is ho.1⟩
theorem gone_ok (R : HP) (H : HH) (tt l mo : Nat) (L : List PR.T) (M : List TI.T) (a : PD.T) (hs : On [R, pts tt (.obj [.mp l, .mp mo]), pts l (lnkO L), pts mo (monO M)] H) (hT : okTies L M = true) : ∃ rs H', Runs pg an 13 [.one (.ptr tt 0), .agg [vi a.1, vi a.2.1]] H rs H' ∧ ∃ c d, rs = [.one c, .one d] ∧ On [R, pts tt (.obj [.mp l, .mp mo]), pts l (lnkO (goneL L a)), pts mo (monO (goneM M a)), ownP PD c (isort ltD (lnkOf L a)), ownP TT5 d (toldG M a)] H' := by
 obtain ⟨hLo, hL, hU, nL, nM⟩ := okTies_is hT
 have hLM := okTies_sum hT
 refine rOF Try.func13 rfl ?_
 obtain ⟨n1, hn1⟩ := lX H
 refine rGz [(0, yp tt), (3, yp n1)] (On.new' hn1 (.obj [vi a.1, vi a.2.1]) hs) (zL 0 (qB 24 [vi a.1, vi a.2.1] hn1)) fun H2 hs3 => ?_
 refine wS ?_
 have hcall4 : Runs pg an 29 [.one (.ptr tt 0)] H2 [.one (vb true)] H2 := by
  refine runs_of ?_
  refine rOF Try.func29 rfl ?_
  refine rs0 [(0, yp tt)] ?_
  refine rSz [(2, xb true)] H2 (zL 6 (qL 58 0 (.one (.mp l)) (On.at hs3 1 rfl))) ?_
  refine wE ?_
  exact ⟨Or.inr rfl, [.one (vb true)], (by kernel_rfl), ⟨rfl, rfl⟩⟩
 refine rSz [(0, yp tt), (3, yp n1), (14, xb false)] H2 (zL 1 (qC1 hcall4)) ?_
 refine wFk ?_
 obtain ⟨_, H7, hr8, c5, rfl, hs9⟩ := links_c (A := an) rfl rfl _ (H2 : HH) tt l mo L M a (On.call [1, 2, 3] [0, 4] (by kernel_rfl) hs3) hT
 have hs9 : On [R, pts n1 (.obj [vi a.1, vi a.2.1]), pts tt (.obj [.mp l, .mp mo]), pts l (lnkO L), pts mo (monO M), ownP PD c5 (isort ltD (lnkOf L a))] H7 := On.flat hs9
 have hk6 : ((isort ltD (lnkOf L a)).length : Int) ≤ (L.length : Int) := lenLd _ _
 refine rGz [(0, yp tt), (3, yp n1), (6, .y (.one (c5)))] hs9 (zA 1 (qL 24 0 (.agg [vi a.1, vi a.2.1]) (On.at hs3 4 rfl)) (zL 2 (qC2 hr8))) fun H10 hs11 => ?_
 obtain ⟨_, H14, hr15, c12, rfl, hs16⟩ := refs_c (A := an) rfl rfl 35 (q35 a) _ (H10 : HH) tt l mo n1 M a (On.call [2, 4, 1] [0, 3, 5] (by kernel_rfl) hs11) q35_of hU nM
 have hs16 : On [R, pts l (lnkO L), ownP PD c5 (isort ltD (lnkOf L a)), pts tt (.obj [.mp l, .mp mo]), pts mo (monO M), pts n1 (.obj [vi a.1, vi a.2.1]), ownP NI c12 (isort ltI (refOf (q35 a) M))] H14 := On.flat hs16
 have hz13 : ((isort ltI (refOf (q35 a) M)).length : Int) ≤ (M.length : Int) := lenIM (q35 a) M
 obtain ⟨_, H19, hr20, c17, rfl, hs21⟩ := told_ok _ (H14 : HH) tt l mo M c12 (isort ltI (refOf (q35 a) M)) (On.call [3, 4, 6] [0, 1, 2, 5] (by kernel_rfl) hs16) (keysIn (q35 a) _) hU (lenI nM)
 have hs21 : On [R, pts l (lnkO L), ownP PD c5 (isort ltD (lnkOf L a)), pts n1 (.obj [vi a.1, vi a.2.1]), pts tt (.obj [.mp l, .mp mo]), pts mo (monO M), ownP NI c12 (isort ltI (refOf (q35 a) M)), ownP TT5 c17 ((isort ltI (refOf (q35 a) M)).map (toldOf M))] H19 := On.flat hs21
 have ht18 : (((isort ltI (refOf (q35 a) M)).map (toldOf M)).length : Int) ≤ (M.length : Int) := by have := lenIM (q35 a) M; rw [eo_]; omega
 refine rGz [(0, yp tt), (3, yp n1), (6, .y (.one (c5))), (7, .y (.one (c17)))] hs21 (zA 3 (qC2 hr15) (zL 4 (qC2 hr20))) fun H22 hs23 => ?_
 refine wS ?_
 refine rSz [(0, yp tt), (3, yp n1), (6, .y (.one (c5))), (7, .y (.one (c17))), (23, .y (.one (c5))), (24, xi ((isort ltD (lnkOf L a)).length : Int)), (25, xi 0)] H22 (zL 1 (ob_len_own (P := pg) (A := an) (s := PD) (c := c5) (l := (isort ltD (lnkOf L a))) (t := 32) (ty := 0) (e := ((isort ltD (lnkOf L a)).length : Int)) hs23 2 rfl (by kernel_rfl) rfl)) ?_
 refine wB ?_
 obtain ⟨rfl, hl26, hs24⟩ | ⟨k27, rfl, k27z, hs25⟩ := own_open hs23 2 rfl
 ·
  have hl26n : ((isort ltD (lnkOf L a)).length : Int) = 0 := by rw [hl26]; rfl
  refine Wp.loopU [(0, yp tt), (3, yp n1), (6, .y (.one (nilC))), (7, .y (.one (c17))), (23, .y (.one (nilC))), (24, xi ((isort ltD (lnkOf L a)).length : Int)), (25, xi 0)] (some ([0, 3, 6, 7, 23, 24, 25], false)) (List.length H22) (by kernel_rfl) ?_
  refine WpL.step ?_
  refine rSz [(0, yp tt), (3, yp n1), (6, .y (.one (nilC))), (7, .y (.one (c17))), (23, .y (.one (nilC))), (24, xi ((isort ltD (lnkOf L a)).length : Int)), (25, xi 0), (26, xb false)] H22 (zL 0 (qlssF H22 0 ((isort ltD (lnkOf L a)).length : Int))) ?_
  refine wS ?_
  refine wFa ?_
  refine wX ?_
  refine Eq.mpr (if_pos rfl) ?_
  refine wS ?_
  obtain ⟨_, H30, hr31, c28, rfl, hs32⟩ := refs_c (A := an) rfl rfl 36 (q36 a) _ (H22 : HH) tt l mo n1 M a (On.call [3, 4, 2] [0, 1, 5, 6] (by kernel_rfl) hs24) q36_of hU nM
  have hs32 : On [R, pts l (lnkO L), ownP NI c12 (isort ltI (refOf (q35 a) M)), ownP TT5 c17 ((isort ltI (refOf (q35 a) M)).map (toldOf M)), pts tt (.obj [.mp l, .mp mo]), pts mo (monO M), pts n1 (.obj [vi a.1, vi a.2.1]), ownP NI c28 (isort ltI (refOf (q36 a) M))] H30 := On.flat hs32
  have hz29 : ((isort ltI (refOf (q36 a) M)).length : Int) ≤ (M.length : Int) := lenIM (q36 a) M
  refine rGz [(0, yp tt), (6, .y (.one (nilC))), (7, .y (.one (c17))), (39, .y (.one (c28))), (40, xi ((isort ltI (refOf (q36 a) M)).length : Int)), (41, xi 0)] hs32 (zA 2 (qC2 hr31) (zL 3 (ob_len_own (P := pg) (A := an) (s := NI) (c := c28) (l := (isort ltI (refOf (q36 a) M))) (t := 75) (ty := 0) (e := ((isort ltI (refOf (q36 a) M)).length : Int)) hs32 7 rfl (by kernel_rfl) rfl))) fun H33 hs34 => ?_
  refine wB ?_
  obtain ⟨rfl, hl37, hs35⟩ | ⟨k38, rfl, k38z, hs36⟩ := own_open hs34 7 rfl
  ·
   have hl37n : ((isort ltI (refOf (q36 a) M)).length : Int) = 0 := by rw [hl37]; rfl
   refine Wp.loopU [(0, yp tt), (6, .y (.one (nilC))), (7, .y (.one (c17))), (39, .y (.one (nilC))), (40, xi ((isort ltI (refOf (q36 a) M)).length : Int)), (41, xi 0)] (some ([0, 6, 7, 39, 40, 41], false)) (List.length H33) (by kernel_rfl) ?_
   refine WpL.step ?_
   refine rSz [(0, yp tt), (6, .y (.one (nilC))), (7, .y (.one (c17))), (39, .y (.one (nilC))), (40, xi ((isort ltI (refOf (q36 a) M)).length : Int)), (41, xi 0), (42, xb false)] H33 (zL 0 (qlssF H33 0 ((isort ltI (refOf (q36 a) M)).length : Int))) ?_
   refine wS ?_
   refine wFa ?_
   refine wX ?_
   refine Eq.mpr (if_pos rfl) ?_
   refine rs0 [(4, .y (.one (nilC))), (5, .y (.one (c17)))] ?_
   refine wE ?_
   refine ⟨Or.inr rfl, [.one (nilC), .one (c17)], (by kernel_rfl), ?_⟩
   have hs39 : On [R, pts l (lnkO (goneL L a)), ownP NI c12 (isort ltI (refOf (q35 a) M)), ownP TT5 c17 ((isort ltI (refOf (q35 a) M)).map (toldOf M)), pts tt (.obj [.mp l, .mp mo]), pts mo (monO (goneM M a)), pts n1 (.obj [vi a.1, vi a.2.1]), ownP PD (nilC) (isort ltD (lnkOf L a))] H33 := sH (On.mono (A' := pts mo (monO (goneM M a))) 5 rfl (fun _ x => by rw [← (show M = (goneM M a) from by unfold goneM; rw [hl37]; rfl)]; exact x) (On.mono (A' := pts l (lnkO (goneL L a))) 1 rfl (fun _ x => by rw [← (show L = (goneL L a) from by unfold goneL; rw [hl26]; rfl)]; exact x) hs35)) [] [0, 1, 2, 3, 4, 5, 6] (fun _ _ => by rw [show (isort ltD (lnkOf L a)) = ([] : List PD.T) from hl26]; exact .inl ⟨rfl, rfl⟩)
   exact ⟨(nilC), c17, rfl, (On.pick [0, 4, 1, 5, 7, 3] [2, 6] (by kernel_rfl) (On.mono (A' := ownP TT5 c17 (toldG M a)) 3 rfl (fun _ x => by rw [← (show ((isort ltI (refOf (q35 a) M)).map (toldOf M)) = (toldG M a) from rfl)]; exact x) hs39))⟩
  refine Wp.loop (T := HH × Int) (fun t => match t with | (H41, i2) => ((((isort ltI (refOf (q36 a) M)).length : Int) - i2).toNat : Nat)) (fun t => match t with | (H41, i2) => ([(0, yp tt), (6, .y (.one (nilC))), (7, .y (.one (c17))), (39, .y (.one (rowC k38 0 (isort ltI (refOf (q36 a) M)).length 0 ((isort ltI (refOf (q36 a) M)).length) false))), (40, xi ((isort ltI (refOf (q36 a) M)).length : Int)), (41, xi i2)] : Env)) (fun t => match t with | (H41, i2) => (H41 : HH))
    (fun t => match t with | (H41, i2) => (On [R, pts l (lnkO L), ownP NI c12 (isort ltI (refOf (q35 a) M)), ownP TT5 c17 ((isort ltI (refOf (q35 a) M)).map (toldOf M)), pts tt (.obj [.mp l, .mp mo]), pts n1 (.obj [vi a.1, vi a.2.1]), pts k38 (rowO NI true 0 (isort ltI (refOf (q36 a) M))), pts mo (monO (delsM M ((isort ltI (refOf (q36 a) M)).take (i2 : Int).toNat)))] H41 ∧ (0 ≤ i2) ∧ (i2 ≤ ((isort ltI (refOf (q36 a) M)).length : Int)) : Prop)) (H33, 0) (by kernel_rfl) (⟨(On.pick [0, 1, 2, 3, 4, 6, 7, 5] [] (by kernel_rfl) (On.mono (A' := pts mo (monO (delsM M ((isort ltI (refOf (q36 a) M)).take (0 : Int).toNat)))) 5 rfl (fun _ x => by rw [← (show M = (delsM M ((isort ltI (refOf (q36 a) M)).take (0 : Int).toNat)) from rfl)]; exact x) hs36)), by omega, by omega⟩) ?_
  rintro ⟨H41, i2⟩ ⟨hs42, hi21, hi22⟩
  show Wp _ _ _ _ [(0, yp tt), (6, .y (.one (nilC))), (7, .y (.one (c17))), (39, .y (.one (rowC k38 0 (isort ltI (refOf (q36 a) M)).length 0 ((isort ltI (refOf (q36 a) M)).length) false))), (40, xi ((isort ltI (refOf (q36 a) M)).length : Int)), (41, xi i2)] H41 _
  rcases ilt (i2) (((isort ltI (refOf (q36 a) M)).length : Int)) with c43 | c43
  ·
   refine rSz [(0, yp tt), (6, .y (.one (nilC))), (7, .y (.one (c17))), (39, .y (.one (rowC k38 0 (isort ltI (refOf (q36 a) M)).length 0 ((isort ltI (refOf (q36 a) M)).length) false))), (40, xi ((isort ltI (refOf (q36 a) M)).length : Int)), (41, xi i2), (42, xb true)] H41 (zL 0 (qlssT H41 i2 ((isort ltI (refOf (q36 a) M)).length : Int))) ?_
   refine wS (wTk ?_)
   refine wS (wB ?_)
   obtain ⟨x44, hx44⟩ : ∃ x : Int, (isort ltI (refOf (q36 a) M))[(i2 : Int).toNat]? = some x := get_of (by first | rfl | omega | (simp only [ek_]; omega) | (simp; done) | (simp; omega))
   refine rSz [(0, yp tt), (6, .y (.one (nilC))), (7, .y (.one (c17))), (11, xi x44), (39, .y (.one (rowC k38 0 (isort ltI (refOf (q36 a) M)).length 0 ((isort ltI (refOf (q36 a) M)).length) false))), (40, xi ((isort ltI (refOf (q36 a) M)).length : Int)), (41, xi i2)] H41 (zA 0 (Jj (H := H41) (s := NI) (t := 75) (el := 3) (ty := 0) (pu := true) (capd := false) (id := k38) (d := 0) (o := 0) (n := ((isort ltI (refOf (q36 a) M)).length)) (j := ((i2 : Int).toNat)) (l := (isort ltI (refOf (q36 a) M))) (i := i2) (On.at hs42 6 rfl) Try.underlying75 (by kernel_rfl) (by omega) (by first | rfl | omega | (simp only [ek_]; omega) | (simp; done) | (simp; omega)) (by first | rfl | omega | (simp only [ek_]; omega) | (simp; done) | (simp; omega)) (by first | rfl | omega | (simp only [ek_]; omega) | (simp; done) | (simp; omega))) (zL 1 (Jo (H := H41) (s := NI) (t := 3) (ty := 0) (pu := true) (id := k38) (d := 0) (j := ((i2 : Int).toNat)) (o := 0) (n := 1) (l := (isort ltI (refOf (q36 a) M))) (x := x44) (v := .one (vi x44)) (On.at hs42 6 rfl) (by kernel_rfl) (by kernel_rfl) (of_content (L := (isort ltI (refOf (q36 a) M))) (o := 0) (n := ((isort ltI (refOf (q36 a) M)).length)) (dt0 rfl (Nat.le_refl _)) hx44 (by first | rfl | omega | (simp only [ek_]; omega) | (simp; done) | (simp; omega))) (by kernel_rfl)))) ?_
   refine rHz [(0, yp tt), (6, .y (.one (nilC))), (7, .y (.one (c17))), (39, .y (.one (rowC k38 0 (isort ltI (refOf (q36 a) M)).length 0 ((isort ltI (refOf (q36 a) M)).length) false))), (40, xi ((isort ltI (refOf (q36 a) M)).length : Int)), (41, xi i2)] (On.put (monO (mdel (delsM M ((isort ltI (refOf (q36 a) M)).take (i2 : Int).toNat)) x44)) hs42 7 rfl) (zA 3 (qL 59 1 (.one (.mp mo)) (On.at hs42 4 rfl)) (zL 5 (mo_del (A := an) (H := H41) (id := mo) (ms := (delsM M ((isort ltI (refOf (q36 a) M)).take (i2 : Int).toNat))) (r := x44) (On.at hs42 7 rfl) (delsM_uq _ hU) (ts := #[59, 3]) rfl))) fun H45 hs46 => ?_
   refine wK ?_
   refine rRz [(0, yp tt), (6, .y (.one (nilC))), (7, .y (.one (c17))), (39, .y (.one (rowC k38 0 (isort ltI (refOf (q36 a) M)).length 0 ((isort ltI (refOf (q36 a) M)).length) false))), (40, xi ((isort ltI (refOf (q36 a) M)).length : Int)), (41, xi (i2 + 1))] H45 (zL 0 (qoAdd H45 i2 1 (i2 + 1))) ?_
   exact ⟨(H45, (i2 + 1)), by kernel_rfl, (⟨(On.pick [0, 1, 2, 3, 4, 5, 6, 7] [] (by kernel_rfl) (On.mono (A' := pts mo (monO (delsM M ((isort ltI (refOf (q36 a) M)).take ((i2 + 1) : Int).toNat)))) 7 rfl (fun _ x => by rw [← (show (mdel (delsM M ((isort ltI (refOf (q36 a) M)).take (i2 : Int).toNat)) x44) = (delsM M ((isort ltI (refOf (q36 a) M)).take ((i2 + 1) : Int).toNat)) from delsM_step hi21 hx44)]; exact x) hs46)), by omega, by omega⟩), (by show (_ : Nat) < _; simp only []; omega)⟩
  refine rSz [(0, yp tt), (6, .y (.one (nilC))), (7, .y (.one (c17))), (39, .y (.one (rowC k38 0 (isort ltI (refOf (q36 a) M)).length 0 ((isort ltI (refOf (q36 a) M)).length) false))), (40, xi ((isort ltI (refOf (q36 a) M)).length : Int)), (41, xi i2), (42, xb false)] H41 (zL 0 (qlssF H41 i2 ((isort ltI (refOf (q36 a) M)).length : Int))) ?_
  refine wS ?_
  refine wFa ?_
  refine wX ?_
  refine Eq.mpr (if_pos rfl) ?_
  refine rs0 [(4, .y (.one (nilC))), (5, .y (.one (c17)))] ?_
  refine wE ?_
  refine ⟨Or.inr rfl, [.one (nilC), .one (c17)], (by kernel_rfl), ?_⟩
  have hs47 : On [R, pts l (lnkO (goneL L a)), ownP NI c12 (isort ltI (refOf (q35 a) M)), ownP TT5 c17 ((isort ltI (refOf (q35 a) M)).map (toldOf M)), pts tt (.obj [.mp l, .mp mo]), pts n1 (.obj [vi a.1, vi a.2.1]), pts k38 (rowO NI true 0 (isort ltI (refOf (q36 a) M))), pts mo (monO (goneM M a)), ownP PD (nilC) (isort ltD (lnkOf L a))] H41 := sH (On.mono (A' := pts mo (monO (goneM M a))) 7 rfl (fun _ x => by rw [← (show (delsM M ((isort ltI (refOf (q36 a) M)).take (i2 : Int).toNat)) = (goneM M a) from delsM_end (by omega))]; exact x) (On.mono (A' := pts l (lnkO (goneL L a))) 1 rfl (fun _ x => by rw [← (show L = (goneL L a) from by unfold goneL; rw [hl26]; rfl)]; exact x) hs42)) [] [0, 1, 2, 3, 4, 5, 6, 7] (fun _ _ => by rw [show (isort ltD (lnkOf L a)) = ([] : List PD.T) from hl26]; exact .inl ⟨rfl, rfl⟩)
  exact ⟨(nilC), c17, rfl, (On.pick [0, 4, 1, 7, 8, 3] [2, 5, 6] (by kernel_rfl) (On.mono (A' := ownP TT5 c17 (toldG M a)) 3 rfl (fun _ x => by rw [← (show ((isort ltI (refOf (q35 a) M)).map (toldOf M)) = (toldG M a) from rfl)]; exact x) hs47))⟩
 refine Wp.loop (T := HH × Int) (fun t => match t with | (H49, i1) => ((((isort ltD (lnkOf L a)).length : Int) - i1).toNat : Nat)) (fun t => match t with | (H49, i1) => ([(0, yp tt), (3, yp n1), (6, .y (.one (rowC k27 0 (isort ltD (lnkOf L a)).length 0 ((isort ltD (lnkOf L a)).length) false))), (7, .y (.one (c17))), (23, .y (.one (rowC k27 0 (isort ltD (lnkOf L a)).length 0 ((isort ltD (lnkOf L a)).length) false))), (24, xi ((isort ltD (lnkOf L a)).length : Int)), (25, xi i1)] : Env)) (fun t => match t with | (H49, i1) => (H49 : HH))
   (fun t => match t with | (H49, i1) => (On [R, pts n1 (.obj [vi a.1, vi a.2.1]), pts tt (.obj [.mp l, .mp mo]), pts mo (monO M), ownP NI c12 (isort ltI (refOf (q35 a) M)), ownP TT5 c17 ((isort ltI (refOf (q35 a) M)).map (toldOf M)), pts k27 (rowO PD true 0 (isort ltD (lnkOf L a))), pts l (lnkO (delsL L a ((isort ltD (lnkOf L a)).take (i1 : Int).toNat)))] H49 ∧ (0 ≤ i1) ∧ (i1 ≤ ((isort ltD (lnkOf L a)).length : Int)) : Prop)) (H22, 0) (by kernel_rfl) (⟨(On.pick [0, 2, 3, 4, 5, 6, 7, 1] [] (by kernel_rfl) (On.mono (A' := pts l (lnkO (delsL L a ((isort ltD (lnkOf L a)).take (0 : Int).toNat)))) 1 rfl (fun _ x => by rw [← (show L = (delsL L a ((isort ltD (lnkOf L a)).take (0 : Int).toNat)) from rfl)]; exact x) hs25)), by omega, by omega⟩) ?_
 rintro ⟨H49, i1⟩ ⟨hs50, hi11, hi12⟩
 show Wp _ _ _ _ [(0, yp tt), (3, yp n1), (6, .y (.one (rowC k27 0 (isort ltD (lnkOf L a)).length 0 ((isort ltD (lnkOf L a)).length) false))), (7, .y (.one (c17))), (23, .y (.one (rowC k27 0 (isort ltD (lnkOf L a)).length 0 ((isort ltD (lnkOf L a)).length) false))), (24, xi ((isort ltD (lnkOf L a)).length : Int)), (25, xi i1)] H49 _
 rcases ilt (i1) (((isort ltD (lnkOf L a)).length : Int)) with c51 | c51
 ·
  refine rSz [(0, yp tt), (3, yp n1), (6, .y (.one (rowC k27 0 (isort ltD (lnkOf L a)).length 0 ((isort ltD (lnkOf L a)).length) false))), (7, .y (.one (c17))), (23, .y (.one (rowC k27 0 (isort ltD (lnkOf L a)).length 0 ((isort ltD (lnkOf L a)).length) false))), (24, xi ((isort ltD (lnkOf L a)).length : Int)), (25, xi i1), (26, xb true)] H49 (zL 0 (qlssT H49 i1 ((isort ltD (lnkOf L a)).length : Int))) ?_
  refine wS (wTk ?_)
  refine wS (wB ?_)
  obtain ⟨x52, hx52⟩ : ∃ x : PD.T, (isort ltD (lnkOf L a))[(i1 : Int).toNat]? = some x := get_of (by first | rfl | omega | (simp only [ek_]; omega) | (simp; done) | (simp; omega))
  obtain ⟨n53, hn53⟩ := lX H49
  refine rGz [(0, yp tt), (3, yp n1), (6, .y (.one (rowC k27 0 (isort ltD (lnkOf L a)).length 0 ((isort ltD (lnkOf L a)).length) false))), (7, .y (.one (c17))), (9, yp n53), (23, .y (.one (rowC k27 0 (isort ltD (lnkOf L a)).length 0 ((isort ltD (lnkOf L a)).length) false))), (24, xi ((isort ltD (lnkOf L a)).length : Int)), (25, xi i1)] (On.put (.obj [vi x52.1, vi x52.2.1]) (On.new' hn53 (.obj [vi 0, vi 0]) hs50) 8 rfl) (zA 0 (Jj (H := H49) (s := PD) (t := 32) (el := 24) (ty := 0) (pu := true) (capd := false) (id := k27) (d := 0) (o := 0) (n := ((isort ltD (lnkOf L a)).length)) (j := ((i1 : Int).toNat)) (l := (isort ltD (lnkOf L a))) (i := i1) (On.at hs50 6 rfl) Try.underlying32 (by kernel_rfl) (by omega) (by first | rfl | omega | (simp only [ek_]; omega) | (simp; done) | (simp; omega)) (by first | rfl | omega | (simp only [ek_]; omega) | (simp; done) | (simp; omega)) (by first | rfl | omega | (simp only [ek_]; omega) | (simp; done) | (simp; omega))) (zA 1 (Jo (H := H49) (s := PD) (t := 24) (ty := 0) (pu := true) (id := k27) (d := 0) (j := ((i1 : Int).toNat)) (o := 0) (n := 2) (l := (isort ltD (lnkOf L a))) (x := x52) (v := .agg [vi x52.1, vi x52.2.1]) (On.at hs50 6 rfl) (by kernel_rfl) (by kernel_rfl) (of_content (L := (isort ltD (lnkOf L a))) (o := 0) (n := ((isort ltD (lnkOf L a)).length)) (dt0 rfl (Nat.le_refl _)) hx52 (by first | rfl | omega | (simp only [ek_]; omega) | (simp; done) | (simp; omega))) (by kernel_rfl)) (zA 2 (qO 24 [vi 0, vi 0] hn53) (zL 3 (qS 24 0 (.agg [vi x52.1, vi x52.2.1]) (On.at (On.new' hn53 (.obj [vi 0, vi 0]) hs50) 8 rfl)))))) fun H54 hs55 => ?_
  obtain ⟨⟨ho56, ho57⟩, ⟨ho58, ho59⟩⟩ := lnk_bounds hLo hx52
  obtain ⟨q60, hq61⟩ : ∃ q, q = pairOf a x52 := ⟨_, rfl⟩
  refine rHz [(0, yp tt), (3, yp n1), (6, .y (.one (rowC k27 0 (isort ltD (lnkOf L a)).length 0 ((isort ltD (lnkOf L a)).length) false))), (7, .y (.one (c17))), (23, .y (.one (rowC k27 0 (isort ltD (lnkOf L a)).length 0 ((isort ltD (lnkOf L a)).length) false))), (24, xi ((isort ltD (lnkOf L a)).length : Int)), (25, xi i1)] (On.put (lnkO (ldel (delsL L a ((isort ltD (lnkOf L a)).take (i1 : Int).toNat)) q60)) hs55 7 rfl) (zA 3 (qL 58 0 (.one (.mp l)) (On.at hs55 2 rfl)) (zA 4 (qL 24 0 (.agg [vi a.1, vi a.2.1]) (On.at hs55 1 rfl)) (zA 5 (qL 24 0 (.agg [vi x52.1, vi x52.2.1]) (On.at hs55 8 rfl)) (zA 6 (qP2 H54 (paired_q a x52 q60 hq61 (by omega) (by omega) (by omega) (by omega))) (zL 7 (lk_del (A := an) (H := H54) (id := l) (es := (delsL L a ((isort ltD (lnkOf L a)).take (i1 : Int).toNat))) (x := q60) (On.at hs55 7 rfl) (delsL_nd _ hL) (ts := #[58, 67]) rfl)))))) fun H62 hs63 => ?_
  refine wK ?_
  refine rRz [(0, yp tt), (3, yp n1), (6, .y (.one (rowC k27 0 (isort ltD (lnkOf L a)).length 0 ((isort ltD (lnkOf L a)).length) false))), (7, .y (.one (c17))), (23, .y (.one (rowC k27 0 (isort ltD (lnkOf L a)).length 0 ((isort ltD (lnkOf L a)).length) false))), (24, xi ((isort ltD (lnkOf L a)).length : Int)), (25, xi (i1 + 1))] H62 (zL 0 (qoAdd H62 i1 1 (i1 + 1))) ?_
  exact ⟨(H62, (i1 + 1)), by kernel_rfl, (⟨(On.pick [0, 1, 2, 3, 4, 5, 6, 7] [8] (by kernel_rfl) (On.mono (A' := pts l (lnkO (delsL L a ((isort ltD (lnkOf L a)).take ((i1 + 1) : Int).toNat)))) 7 rfl (fun _ x => by rw [← (show (ldel (delsL L a ((isort ltD (lnkOf L a)).take (i1 : Int).toNat)) q60) = (delsL L a ((isort ltD (lnkOf L a)).take ((i1 + 1) : Int).toNat)) from by rw [hq61]; exact delsL_step hi11 hx52)]; exact x) hs63)), by omega, by omega⟩), (by show (_ : Nat) < _; simp only []; omega)⟩
 refine rSz [(0, yp tt), (3, yp n1), (6, .y (.one (rowC k27 0 (isort ltD (lnkOf L a)).length 0 ((isort ltD (lnkOf L a)).length) false))), (7, .y (.one (c17))), (23, .y (.one (rowC k27 0 (isort ltD (lnkOf L a)).length 0 ((isort ltD (lnkOf L a)).length) false))), (24, xi ((isort ltD (lnkOf L a)).length : Int)), (25, xi i1), (26, xb false)] H49 (zL 0 (qlssF H49 i1 ((isort ltD (lnkOf L a)).length : Int))) ?_
 refine wS ?_
 refine wFa ?_
 refine wX ?_
 refine Eq.mpr (if_pos rfl) ?_
 refine wS ?_
 obtain ⟨_, H66, hr67, c64, rfl, hs68⟩ := refs_c (A := an) rfl rfl 36 (q36 a) _ (H49 : HH) tt l mo n1 M a (On.call [2, 3, 1] [0, 4, 5, 6, 7] (by kernel_rfl) hs50) q36_of hU nM
 have hs68 : On [R, ownP NI c12 (isort ltI (refOf (q35 a) M)), ownP TT5 c17 ((isort ltI (refOf (q35 a) M)).map (toldOf M)), pts k27 (rowO PD true 0 (isort ltD (lnkOf L a))), pts l (lnkO (delsL L a ((isort ltD (lnkOf L a)).take (i1 : Int).toNat))), pts tt (.obj [.mp l, .mp mo]), pts mo (monO M), pts n1 (.obj [vi a.1, vi a.2.1]), ownP NI c64 (isort ltI (refOf (q36 a) M))] H66 := On.flat hs68
 have hz65 : ((isort ltI (refOf (q36 a) M)).length : Int) ≤ (M.length : Int) := lenIM (q36 a) M
 refine rGz [(0, yp tt), (6, .y (.one (rowC k27 0 (isort ltD (lnkOf L a)).length 0 ((isort ltD (lnkOf L a)).length) false))), (7, .y (.one (c17))), (39, .y (.one (c64))), (40, xi ((isort ltI (refOf (q36 a) M)).length : Int)), (41, xi 0)] hs68 (zA 2 (qC2 hr67) (zL 3 (ob_len_own (P := pg) (A := an) (s := NI) (c := c64) (l := (isort ltI (refOf (q36 a) M))) (t := 75) (ty := 0) (e := ((isort ltI (refOf (q36 a) M)).length : Int)) hs68 8 rfl (by kernel_rfl) rfl))) fun H69 hs70 => ?_
 refine wB ?_
 obtain ⟨rfl, hl73, hs71⟩ | ⟨k74, rfl, k74z, hs72⟩ := own_open hs70 8 rfl
 ·
  have hl73n : ((isort ltI (refOf (q36 a) M)).length : Int) = 0 := by rw [hl73]; rfl
  refine Wp.loopU [(0, yp tt), (6, .y (.one (rowC k27 0 (isort ltD (lnkOf L a)).length 0 ((isort ltD (lnkOf L a)).length) false))), (7, .y (.one (c17))), (39, .y (.one (nilC))), (40, xi ((isort ltI (refOf (q36 a) M)).length : Int)), (41, xi 0)] (some ([0, 6, 7, 39, 40, 41], false)) (List.length H69) (by kernel_rfl) ?_
  refine WpL.step ?_
  refine rSz [(0, yp tt), (6, .y (.one (rowC k27 0 (isort ltD (lnkOf L a)).length 0 ((isort ltD (lnkOf L a)).length) false))), (7, .y (.one (c17))), (39, .y (.one (nilC))), (40, xi ((isort ltI (refOf (q36 a) M)).length : Int)), (41, xi 0), (42, xb false)] H69 (zL 0 (qlssF H69 0 ((isort ltI (refOf (q36 a) M)).length : Int))) ?_
  refine wS ?_
  refine wFa ?_
  refine wX ?_
  refine Eq.mpr (if_pos rfl) ?_
  refine rs0 [(4, .y (.one (rowC k27 0 (isort ltD (lnkOf L a)).length 0 ((isort ltD (lnkOf L a)).length) false))), (5, .y (.one (c17)))] ?_
  refine wE ?_
  refine ⟨Or.inr rfl, [.one (rowC k27 0 (isort ltD (lnkOf L a)).length 0 ((isort ltD (lnkOf L a)).length) false), .one (c17)], (by kernel_rfl), ?_⟩
  have hs75 : On [R, ownP NI c12 (isort ltI (refOf (q35 a) M)), ownP TT5 c17 ((isort ltI (refOf (q35 a) M)).map (toldOf M)), pts l (lnkO (goneL L a)), pts tt (.obj [.mp l, .mp mo]), pts mo (monO (goneM M a)), pts n1 (.obj [vi a.1, vi a.2.1]), ownP PD (rowC k27 0 (isort ltD (lnkOf L a)).length 0 ((isort ltD (lnkOf L a)).length) false) (isort ltD (lnkOf L a))] H69 := sH (On.mono (A' := pts mo (monO (goneM M a))) 6 rfl (fun _ x => by rw [← (show M = (goneM M a) from by unfold goneM; rw [hl73]; rfl)]; exact x) (On.mono (A' := pts l (lnkO (goneL L a))) 4 rfl (fun _ x => by rw [← (show (delsL L a ((isort ltD (lnkOf L a)).take (i1 : Int).toNat)) = (goneL L a) from delsL_end (by omega))]; exact x) hs71)) [3] [0, 1, 2, 4, 5, 6, 7] (fun _ x => by rw [show (isort ltD (lnkOf L a)) = (isort ltD (lnkOf L a)) from rfl]; exact own_row (by first | assumption | (simp; done)) x)
  exact ⟨(rowC k27 0 (isort ltD (lnkOf L a)).length 0 ((isort ltD (lnkOf L a)).length) false), c17, rfl, (On.pick [0, 4, 3, 5, 7, 2] [1, 6] (by kernel_rfl) (On.mono (A' := ownP TT5 c17 (toldG M a)) 2 rfl (fun _ x => by rw [← (show ((isort ltI (refOf (q35 a) M)).map (toldOf M)) = (toldG M a) from rfl)]; exact x) hs75))⟩
 refine Wp.loop (T := HH × Int) (fun t => match t with | (H77, i2) => ((((isort ltI (refOf (q36 a) M)).length : Int) - i2).toNat : Nat)) (fun t => match t with | (H77, i2) => ([(0, yp tt), (6, .y (.one (rowC k27 0 (isort ltD (lnkOf L a)).length 0 ((isort ltD (lnkOf L a)).length) false))), (7, .y (.one (c17))), (39, .y (.one (rowC k74 0 (isort ltI (refOf (q36 a) M)).length 0 ((isort ltI (refOf (q36 a) M)).length) false))), (40, xi ((isort ltI (refOf (q36 a) M)).length : Int)), (41, xi i2)] : Env)) (fun t => match t with | (H77, i2) => (H77 : HH))
   (fun t => match t with | (H77, i2) => (On [R, ownP NI c12 (isort ltI (refOf (q35 a) M)), ownP TT5 c17 ((isort ltI (refOf (q35 a) M)).map (toldOf M)), pts k27 (rowO PD true 0 (isort ltD (lnkOf L a))), pts l (lnkO (delsL L a ((isort ltD (lnkOf L a)).take (i1 : Int).toNat))), pts tt (.obj [.mp l, .mp mo]), pts n1 (.obj [vi a.1, vi a.2.1]), pts k74 (rowO NI true 0 (isort ltI (refOf (q36 a) M))), pts mo (monO (delsM M ((isort ltI (refOf (q36 a) M)).take (i2 : Int).toNat)))] H77 ∧ (0 ≤ i2) ∧ (i2 ≤ ((isort ltI (refOf (q36 a) M)).length : Int)) : Prop)) (H69, 0) (by kernel_rfl) (⟨(On.pick [0, 1, 2, 3, 4, 5, 7, 8, 6] [] (by kernel_rfl) (On.mono (A' := pts mo (monO (delsM M ((isort ltI (refOf (q36 a) M)).take (0 : Int).toNat)))) 6 rfl (fun _ x => by rw [← (show M = (delsM M ((isort ltI (refOf (q36 a) M)).take (0 : Int).toNat)) from rfl)]; exact x) hs72)), by omega, by omega⟩) ?_
 rintro ⟨H77, i2⟩ ⟨hs78, hi21, hi22⟩
 show Wp _ _ _ _ [(0, yp tt), (6, .y (.one (rowC k27 0 (isort ltD (lnkOf L a)).length 0 ((isort ltD (lnkOf L a)).length) false))), (7, .y (.one (c17))), (39, .y (.one (rowC k74 0 (isort ltI (refOf (q36 a) M)).length 0 ((isort ltI (refOf (q36 a) M)).length) false))), (40, xi ((isort ltI (refOf (q36 a) M)).length : Int)), (41, xi i2)] H77 _
 rcases ilt (i2) (((isort ltI (refOf (q36 a) M)).length : Int)) with c79 | c79
 ·
  refine rSz [(0, yp tt), (6, .y (.one (rowC k27 0 (isort ltD (lnkOf L a)).length 0 ((isort ltD (lnkOf L a)).length) false))), (7, .y (.one (c17))), (39, .y (.one (rowC k74 0 (isort ltI (refOf (q36 a) M)).length 0 ((isort ltI (refOf (q36 a) M)).length) false))), (40, xi ((isort ltI (refOf (q36 a) M)).length : Int)), (41, xi i2), (42, xb true)] H77 (zL 0 (qlssT H77 i2 ((isort ltI (refOf (q36 a) M)).length : Int))) ?_
  refine wS (wTk ?_)
  refine wS (wB ?_)
  obtain ⟨x80, hx80⟩ : ∃ x : Int, (isort ltI (refOf (q36 a) M))[(i2 : Int).toNat]? = some x := get_of (by first | rfl | omega | (simp only [ek_]; omega) | (simp; done) | (simp; omega))
  refine rSz [(0, yp tt), (6, .y (.one (rowC k27 0 (isort ltD (lnkOf L a)).length 0 ((isort ltD (lnkOf L a)).length) false))), (7, .y (.one (c17))), (11, xi x80), (39, .y (.one (rowC k74 0 (isort ltI (refOf (q36 a) M)).length 0 ((isort ltI (refOf (q36 a) M)).length) false))), (40, xi ((isort ltI (refOf (q36 a) M)).length : Int)), (41, xi i2)] H77 (zA 0 (Jj (H := H77) (s := NI) (t := 75) (el := 3) (ty := 0) (pu := true) (capd := false) (id := k74) (d := 0) (o := 0) (n := ((isort ltI (refOf (q36 a) M)).length)) (j := ((i2 : Int).toNat)) (l := (isort ltI (refOf (q36 a) M))) (i := i2) (On.at hs78 7 rfl) Try.underlying75 (by kernel_rfl) (by omega) (by first | rfl | omega | (simp only [ek_]; omega) | (simp; done) | (simp; omega)) (by first | rfl | omega | (simp only [ek_]; omega) | (simp; done) | (simp; omega)) (by first | rfl | omega | (simp only [ek_]; omega) | (simp; done) | (simp; omega))) (zL 1 (Jo (H := H77) (s := NI) (t := 3) (ty := 0) (pu := true) (id := k74) (d := 0) (j := ((i2 : Int).toNat)) (o := 0) (n := 1) (l := (isort ltI (refOf (q36 a) M))) (x := x80) (v := .one (vi x80)) (On.at hs78 7 rfl) (by kernel_rfl) (by kernel_rfl) (of_content (L := (isort ltI (refOf (q36 a) M))) (o := 0) (n := ((isort ltI (refOf (q36 a) M)).length)) (dt0 rfl (Nat.le_refl _)) hx80 (by first | rfl | omega | (simp only [ek_]; omega) | (simp; done) | (simp; omega))) (by kernel_rfl)))) ?_
  refine rHz [(0, yp tt), (6, .y (.one (rowC k27 0 (isort ltD (lnkOf L a)).length 0 ((isort ltD (lnkOf L a)).length) false))), (7, .y (.one (c17))), (39, .y (.one (rowC k74 0 (isort ltI (refOf (q36 a) M)).length 0 ((isort ltI (refOf (q36 a) M)).length) false))), (40, xi ((isort ltI (refOf (q36 a) M)).length : Int)), (41, xi i2)] (On.put (monO (mdel (delsM M ((isort ltI (refOf (q36 a) M)).take (i2 : Int).toNat)) x80)) hs78 8 rfl) (zA 3 (qL 59 1 (.one (.mp mo)) (On.at hs78 5 rfl)) (zL 5 (mo_del (A := an) (H := H77) (id := mo) (ms := (delsM M ((isort ltI (refOf (q36 a) M)).take (i2 : Int).toNat))) (r := x80) (On.at hs78 8 rfl) (delsM_uq _ hU) (ts := #[59, 3]) rfl))) fun H81 hs82 => ?_
  refine wK ?_
  refine rRz [(0, yp tt), (6, .y (.one (rowC k27 0 (isort ltD (lnkOf L a)).length 0 ((isort ltD (lnkOf L a)).length) false))), (7, .y (.one (c17))), (39, .y (.one (rowC k74 0 (isort ltI (refOf (q36 a) M)).length 0 ((isort ltI (refOf (q36 a) M)).length) false))), (40, xi ((isort ltI (refOf (q36 a) M)).length : Int)), (41, xi (i2 + 1))] H81 (zL 0 (qoAdd H81 i2 1 (i2 + 1))) ?_
  exact ⟨(H81, (i2 + 1)), by kernel_rfl, (⟨(On.pick [0, 1, 2, 3, 4, 5, 6, 7, 8] [] (by kernel_rfl) (On.mono (A' := pts mo (monO (delsM M ((isort ltI (refOf (q36 a) M)).take ((i2 + 1) : Int).toNat)))) 8 rfl (fun _ x => by rw [← (show (mdel (delsM M ((isort ltI (refOf (q36 a) M)).take (i2 : Int).toNat)) x80) = (delsM M ((isort ltI (refOf (q36 a) M)).take ((i2 + 1) : Int).toNat)) from delsM_step hi21 hx80)]; exact x) hs82)), by omega, by omega⟩), (by show (_ : Nat) < _; simp only []; omega)⟩
 refine rSz [(0, yp tt), (6, .y (.one (rowC k27 0 (isort ltD (lnkOf L a)).length 0 ((isort ltD (lnkOf L a)).length) false))), (7, .y (.one (c17))), (39, .y (.one (rowC k74 0 (isort ltI (refOf (q36 a) M)).length 0 ((isort ltI (refOf (q36 a) M)).length) false))), (40, xi ((isort ltI (refOf (q36 a) M)).length : Int)), (41, xi i2), (42, xb false)] H77 (zL 0 (qlssF H77 i2 ((isort ltI (refOf (q36 a) M)).length : Int))) ?_
 refine wS ?_
 refine wFa ?_
 refine wX ?_
 refine Eq.mpr (if_pos rfl) ?_
 refine rs0 [(4, .y (.one (rowC k27 0 (isort ltD (lnkOf L a)).length 0 ((isort ltD (lnkOf L a)).length) false))), (5, .y (.one (c17)))] ?_
 refine wE ?_
 refine ⟨Or.inr rfl, [.one (rowC k27 0 (isort ltD (lnkOf L a)).length 0 ((isort ltD (lnkOf L a)).length) false), .one (c17)], (by kernel_rfl), ?_⟩
 have hs83 : On [R, ownP NI c12 (isort ltI (refOf (q35 a) M)), ownP TT5 c17 ((isort ltI (refOf (q35 a) M)).map (toldOf M)), pts l (lnkO (goneL L a)), pts tt (.obj [.mp l, .mp mo]), pts n1 (.obj [vi a.1, vi a.2.1]), pts k74 (rowO NI true 0 (isort ltI (refOf (q36 a) M))), pts mo (monO (goneM M a)), ownP PD (rowC k27 0 (isort ltD (lnkOf L a)).length 0 ((isort ltD (lnkOf L a)).length) false) (isort ltD (lnkOf L a))] H77 := sH (On.mono (A' := pts mo (monO (goneM M a))) 8 rfl (fun _ x => by rw [← (show (delsM M ((isort ltI (refOf (q36 a) M)).take (i2 : Int).toNat)) = (goneM M a) from delsM_end (by omega))]; exact x) (On.mono (A' := pts l (lnkO (goneL L a))) 4 rfl (fun _ x => by rw [← (show (delsL L a ((isort ltD (lnkOf L a)).take (i1 : Int).toNat)) = (goneL L a) from delsL_end (by omega))]; exact x) hs78)) [3] [0, 1, 2, 4, 5, 6, 7, 8] (fun _ x => by rw [show (isort ltD (lnkOf L a)) = (isort ltD (lnkOf L a)) from rfl]; exact own_row (by first | assumption | (simp; done)) x)
 exact ⟨(rowC k27 0 (isort ltD (lnkOf L a)).length 0 ((isort ltD (lnkOf L a)).length) false), c17, rfl, (On.pick [0, 4, 3, 7, 8, 2] [1, 5, 6] (by kernel_rfl) (On.mono (A' := ownP TT5 c17 (toldG M a)) 2 rfl (fun _ x => by rw [← (show ((isort ltI (refOf (q35 a) M)).map (toldOf M)) = (toldG M a) from rfl)]; exact x) hs83))⟩
end Go.Proofs.Ytjhgjbagmkiibaa.E
end
section
namespace Go.Proofs.Ytjhgjbagmkiibaa.E
open Go.Lg Go.Sort
set_option maxRecDepth 100000
set_option linter.unusedVariables false
set_option linter.unusedSimpArgs false
structure TieInv (L : List PR.T) (M : List TI.T) : Prop where
 nd : L.Nodup
 uq : Uniq M
 lk : ∀ p ∈ L, mayP p.1 = true ∧ mayP p.2.1 = true ∧ ltD p.1 p.2.1 = true
 mn : ∀ y ∈ M, (1 ≤ y.1 ∧ y.1 ≤ 4611686018427387903) ∧ mayP y.2.1 = true ∧ mayP y.2.2.1 = true
 sz : (L.length : Int) + (M.length : Int) ≤ 1024
theorem inv_nil : TieInv [] [] := ⟨List.nodup_nil, List.nodup_nil, fun _ h => (by cases h), fun _ h => (by cases h), by decide⟩
theorem may_okD {a : PD.T} (h : mayP a = true) : okD a = true := by
 have := may_is h
 exact decide_eq_true ⟨this.1, this.2.1⟩
theorem TieInv.ok {L : List PR.T} {M : List TI.T} (h : TieInv L M) : okTies L M = true := by
 refine okTies_of ?_ h.nd h.uq (by have := h.sz; omega)
 rw [List.all_eq_true]
 intro p hp
 have := h.lk p hp
 unfold okL
 rw [may_okD this.1, may_okD this.2.1]
 rfl
theorem eqPD {a b : PD.T} : eqb PD a b = true ↔ a = b := eqb_iff (s := PD) rfl
theorem neqPD {a b : PD.T} : eqb PD a b = false ↔ a ≠ b := by
 rw [← Bool.not_eq_true, eqPD]
theorem ord_gt {a b : PD.T} : 0 < ordP a b ↔ ltD b a = true := by
 unfold ordP cmpP ltD ltP
 dsimp only
 rw [decide_eq_true_eq]
 split
 ·omega
 ·split
  ·omega
  ·split <;> omega
theorem pair_lt {a b : PD.T} (h : ltD a b = true) : pairOf a b = (a, (b, ())) ∧ pairOf b a = (a, (b, ())) := by
 refine ⟨if_neg fun e => ?_, if_pos (ord_gt.2 h)⟩
 have := ord_gt.1 e
 have h2 := swoD.trans _ _ _ h this
 rw [swoD.irrefl] at h2; cases h2
theorem lt_or {a b : PD.T} (h : a ≠ b) : ltD a b = true ∨ ltD b a = true := by
 cases h1 : ltD a b with
 | true => exact .inl rfl
 | false =>
  cases h2 : ltD b a with
  | true => exact .inr rfl
  | false => exact absurd (antiD _ _ h1 h2) h
theorem pair_ord {a b : PD.T} (h : a ≠ b) : ltD (pairOf a b).1 (pairOf a b).2.1 = true := by
 rcases lt_or h with e | e
 ·rw [(pair_lt e).1]; exact e
 ·rw [(pair_lt e).2]; exact e
theorem pair_is {p : PR.T} {a b : PD.T} (ho : ltD p.1 p.2.1 = true) (h : (p.1 = a ∧ p.2.1 = b) ∨ (p.2.1 = a ∧ p.1 = b)) : p = pairOf a b := by
 obtain ⟨x, y, u⟩ := p
 rcases h with ⟨rfl, rfl⟩ | ⟨rfl, rfl⟩
 ·exact (pair_lt ho).1.symm
 ·exact (pair_lt ho).2.symm
theorem pair_has (a b : PD.T) : ((pairOf a b).1 = a ∧ (pairOf a b).2.1 = b) ∨ ((pairOf a b).2.1 = a ∧ (pairOf a b).1 = b) := by
 unfold pairOf
 split
 ·exact .inr ⟨rfl, rfl⟩
 ·exact .inl ⟨rfl, rfl⟩
theorem ne_of_lt {a b : PD.T} (h : ltD a b = true) : a ≠ b := by
 rintro rfl
 rw [swoD.irrefl] at h; cases h
theorem mem_lnkOf {L : List PR.T} {a b : PD.T} (ho : ∀ p ∈ L, ltD p.1 p.2.1 = true) : b ∈ lnkOf L a ↔ a ≠ b ∧ pairOf a b ∈ L := by
 constructor
 ·intro h
  obtain ⟨p, hp, h⟩ := List.mem_filterMap.1 h
  have hne := ne_of_lt (ho p hp)
  split at h
  ·rename_i e; cases h
   have e := eqPD.1 e
   refine ⟨by rw [← e]; exact hne, ?_⟩
   rw [← pair_is (ho p hp) (.inl ⟨e, rfl⟩)]; exact hp
  ·split at h
   ·rename_i e; cases h
    have e := eqPD.1 e
    refine ⟨by rw [← e]; exact hne.symm, ?_⟩
    rw [← pair_is (ho p hp) (.inr ⟨e, rfl⟩)]; exact hp
   ·cases h
 ·rintro ⟨hne, hp⟩
  refine List.mem_filterMap.2 ⟨_, hp, ?_⟩
  rcases pair_has a b with ⟨e1, e2⟩ | ⟨e1, e2⟩
  ·rw [if_pos (eqPD.2 e1), e2]
  ·rw [if_neg (by rw [eqPD, e2]; exact hne.symm), if_pos (eqPD.2 e1), e2]
theorem mem_links {L : List PR.T} {a b : PD.T} (ho : ∀ p ∈ L, ltD p.1 p.2.1 = true) : b ∈ isort ltD (lnkOf L a) ↔ a ≠ b ∧ pairOf a b ∈ L := by
 rw [(isort_perm ltD _).mem_iff, mem_lnkOf ho]
theorem mem_ldel {L : List PR.T} {x y : PR.T} : y ∈ ldel L x ↔ y ∈ L ∧ x ≠ y := by
 unfold ldel
 rw [List.mem_filter, Bool.not_eq_true', ← Bool.not_eq_true, eqPR_iff]
theorem ldel_len {L : List PR.T} (x : PR.T) : (ldel L x).length ≤ L.length := List.length_filter_le _ _
theorem mem_lins {L : List PR.T} {x y : PR.T} : y ∈ lins L x ↔ y ∈ L ∨ y = x := by
 unfold lins
 rw [List.mem_append, mem_ldel, List.mem_singleton]
 constructor
 ·rintro (h | h)
  ·exact .inl h.1
  ·exact .inr h
 ·rintro (h | h)
  ·by_cases e : x = y
   ·exact .inr e.symm
   ·exact .inl ⟨h, e⟩
  ·exact .inr h
theorem lins_nd {L : List PR.T} {x : PR.T} (h : L.Nodup) : (lins L x).Nodup := by
 unfold lins
 refine List.nodup_append.2 ⟨h.filter _, by simp, ?_⟩
 rintro y hy z hz rfl
 rw [List.mem_singleton] at hz
 subst hz
 exact (mem_ldel.1 hy).2 rfl
theorem lins_len {L : List PR.T} (x : PR.T) : (lins L x).length ≤ L.length + 1 := by
 unfold lins
 have := ldel_len (L := L) x
 rw [ej_]
 simp only [en_, ek_]
 omega
theorem mem_mdel {M : List TI.T} {r : Int} {y : TI.T} : y ∈ mdel M r ↔ y ∈ M ∧ r ≠ y.1 := by
 unfold mdel
 rw [List.mem_filter, Bool.not_eq_true', ← Bool.not_eq_true, beq_iff_eq]
theorem mdel_uq {M : List TI.T} (r : Int) (h : Uniq M) : Uniq (mdel M r) := h.sublist (List.filter_sublist.map _)
theorem mem_mins {M : List TI.T} {r : Int} {w : PR.T} {y : TI.T} : y ∈ mins M r w ↔ (y ∈ M ∧ r ≠ y.1) ∨ y = ((r, w) : TI.T) := by
 unfold mins
 rw [List.mem_append, mem_mdel, List.mem_singleton]
theorem mins_uq {M : List TI.T} {r : Int} {w : PR.T} (h : Uniq M) : Uniq (mins M r w) := by
 unfold mins Uniq
 rw [List.map_append]
 refine List.nodup_append.2 ⟨mdel_uq r h, by simp, ?_⟩
 rintro x hx z hz rfl
 obtain ⟨y, hy, rfl⟩ := List.mem_map.1 hx
 simp only [List.map_cons, List.map_nil, List.mem_singleton] at hz
 exact (mem_mdel.1 hy).2 hz.symm
theorem mins_len {M : List TI.T} (r : Int) (w : PR.T) : (mins M r w).length ≤ M.length + 1 := by
 unfold mins mdel
 have := List.length_filter_le (fun y : TI.T => !(r == y.1)) M
 rw [ej_]
 simp only [en_, ek_]
 omega
theorem TieInv.ord {L : List PR.T} {M : List TI.T} (h : TieInv L M) : ∀ p ∈ L, ltD p.1 p.2.1 = true := fun p hp => (h.lk p hp).2.2
theorem may_pair {a b : PD.T} (ha : mayP a = true) (hb : mayP b = true) : mayP (pairOf a b).1 = true ∧ mayP (pairOf a b).2.1 = true := by
 unfold pairOf
 split
 ·exact ⟨hb, ha⟩
 ·exact ⟨ha, hb⟩
theorem inv_link {L : List PR.T} {M : List TI.T} (h : TieInv L M) (a b : PD.T) : TieInv (linkL L M a b) M := by
 unfold linkL
 cases hb : badP a b with
 | true => rw [if_pos rfl]; exact h
 | false =>
  rw [if_neg (by simp)]
  split
  ·exact h
  ·split
   ·exact h
   ·rename_i hs
    obtain ⟨h1, h2, h3⟩ := bad_is hb
    have h3 := neqPD.1 h3
    refine ⟨lins_nd h.nd, h.uq, ?_, h.mn, ?_⟩
    ·intro p hp
     rcases mem_lins.1 hp with hp | rfl
     ·exact h.lk p hp
     ·exact ⟨(may_pair h1 h2).1, (may_pair h1 h2).2, pair_ord h3⟩
    ·have := lins_len (L := L) (pairOf a b)
     omega
theorem inv_unlink {L : List PR.T} {M : List TI.T} (h : TieInv L M) (a b : PD.T) : TieInv (unlinkL L a b) M := by
 unfold unlinkL
 split
 ·exact h
 ·split
  ·have := ldel_len (L := L) (pairOf a b)
   exact ⟨h.nd.filter _, h.uq, fun p hp => h.lk p (mem_ldel.1 hp).1, h.mn, by have := h.sz; omega⟩
  ·exact h
theorem monX_is {M : List TI.T} {r : Int} {a b : PD.T} (h : monX M r a b = false) : mayP a = true ∧ mayP b = true ∧ 1 ≤ r ∧ r ≤ 4611686018427387903 ∧ keyB r M = false := by
 unfold monX at h
 split at h
 ·split at h
  ·split at h
   ·split at h
    ·exact ⟨‹_›, ‹_›, ‹_›, ‹_›, h⟩
    ·cases h
   ·cases h
  ·cases h
 ·cases h
theorem inv_mon {L : List PR.T} {M : List TI.T} (h : TieInv L M) (r : Int) (a b : PD.T) : TieInv L (monM L M r a b) := by
 unfold monM
 cases hb : monX M r a b with
 | true => rw [if_pos rfl]; exact h
 | false =>
  rw [if_neg (by simp)]
  split
  ·exact h
  ·rename_i hs
   obtain ⟨h1, h2, h3, h4, h5⟩ := monX_is hb
   refine ⟨h.nd, mins_uq h.uq, h.lk, ?_, ?_⟩
   ·intro y hy
    rcases mem_mins.1 hy with hy | rfl
    ·exact h.mn y hy.1
    ·exact ⟨⟨h3, h4⟩, h1, h2⟩
   ·have := mins_len (M := M) r (a, (b, ()))
    omega
theorem inv_dem {L : List PR.T} {M : List TI.T} (h : TieInv L M) (r : Int) : TieInv L (demM M r) := by
 unfold demM
 split
 ·refine ⟨h.nd, mdel_uq r h.uq, h.lk, fun y hy => h.mn y (mem_mdel.1 hy).1, ?_⟩
  have : (mdel M r).length ≤ M.length := List.length_filter_le _ _
  have := h.sz
  omega
 ·exact h
theorem delsL_is {a : PD.T} : ∀ {L : List PR.T} (ds : List PD.T), delsL L a ds = L.filter fun x => ds.all fun b => !eqb PR (pairOf a b) x
 | L, [] => by
  exact (List.filter_eq_self.2 fun _ _ => rfl).symm
 | L, b :: ds => by
  have := delsL_is (a := a) (L := ldel L (pairOf a b)) ds
  show delsL (ldel L (pairOf a b)) a ds = _
  rw [this]
  unfold ldel
  rw [List.filter_filter]
  refine List.filter_congr fun x _ => ?_
  rw [List.all_cons, Bool.and_comm]
theorem goneL_is {L : List PR.T} {M : List TI.T} (h : TieInv L M) (a : PD.T) : goneL L a = L.filter fun p => !(eqb PD p.1 a || eqb PD p.2.1 a) := by
 unfold goneL
 rw [delsL_is]
 refine List.filter_congr fun x hx => ?_
 rw [Bool.eq_iff_iff, List.all_eq_true, Bool.not_eq_true', Bool.or_eq_false_iff]
 have ho := h.ord x hx
 constructor
 ·intro hb
  constructor
  ·rw [neqPD]
   intro e
   have := hb x.2.1 ((mem_links h.ord).2 ⟨by rw [← e]; exact ne_of_lt ho, by rw [← pair_is ho (.inl ⟨e, rfl⟩)]; exact hx⟩)
   rw [← pair_is ho (.inl ⟨e, rfl⟩), eqb_refl rfl] at this
   cases this
  ·rw [neqPD]
   intro e
   have := hb x.1 ((mem_links h.ord).2 ⟨by rw [← e]; exact (ne_of_lt ho).symm, by rw [← pair_is ho (.inr ⟨e, rfl⟩)]; exact hx⟩)
   rw [← pair_is ho (.inr ⟨e, rfl⟩), eqb_refl rfl] at this
   cases this
 ·rintro ⟨h1, h2⟩ b hb
  rw [Bool.not_eq_true', ← Bool.not_eq_true, eqPR_iff]
  rintro rfl
  rcases pair_has a b with ⟨e1, e2⟩ | ⟨e1, e2⟩
  ·exact neqPD.1 h1 e1
  ·exact neqPD.1 h2 e1
theorem delsM_is : ∀ {M : List TI.T} (rs : List Int), delsM M rs = M.filter fun y => rs.all fun r => !(r == y.1)
 | M, [] => by
  exact (List.filter_eq_self.2 fun _ _ => rfl).symm
 | M, r :: rs => by
  have := delsM_is (M := mdel M r) rs
  show delsM (mdel M r) rs = _
  rw [this]
  unfold mdel
  rw [List.filter_filter]
  refine List.filter_congr fun x _ => ?_
  rw [List.all_cons, Bool.and_comm]
theorem mem_refs {q : PR.T → Bool} {M : List TI.T} {r : Int} : r ∈ isort ltI (refOf q M) ↔ ∃ y ∈ M, q y.2 = true ∧ y.1 = r := by
 rw [(isort_perm ltI _).mem_iff]
 unfold refOf
 rw [List.mem_map]
 constructor
 ·rintro ⟨y, hy, rfl⟩
  exact ⟨y, (List.mem_filter.1 hy).1, (List.mem_filter.1 hy).2, rfl⟩
 ·rintro ⟨y, h1, h2, rfl⟩
  exact ⟨y, List.mem_filter.2 ⟨h1, h2⟩, rfl⟩
theorem goneM_is {M : List TI.T} (h : Uniq M) (a : PD.T) : goneM M a = M.filter fun y => !(q36 a y.2) := by
 unfold goneM
 rw [delsM_is]
 refine List.filter_congr fun x hx => ?_
 rw [Bool.eq_iff_iff, List.all_eq_true, Bool.not_eq_true']
 constructor
 ·intro hb
  rw [← Bool.not_eq_true]
  intro hq
  have := hb x.1 (mem_refs.2 ⟨x, hx, hq, rfl⟩)
  simp at this
 ·intro hq r hr
  obtain ⟨y, hy, h1, h2⟩ := mem_refs.1 hr
  rw [Bool.not_eq_true', ← Bool.not_eq_true, beq_iff_eq]
  intro e
  have : y = x := inj_of_nodup h y hy x hx (h2.trans e)
  subst this
  rw [hq] at h1; cases h1
theorem inv_gone {L : List PR.T} {M : List TI.T} (h : TieInv L M) (a : PD.T) : TieInv (goneL L a) (goneM M a) := by
 rw [goneL_is h, goneM_is h.uq]
 have h1 := List.length_filter_le (fun p : PR.T => !(eqb PD p.1 a || eqb PD p.2.1 a)) L
 have h2 := List.length_filter_le (fun y : TI.T => !(q36 a y.2)) M
 have := h.sz
 exact ⟨h.nd.filter _, h.uq.sublist (List.filter_sublist.map _), fun p hp => h.lk p (List.mem_filter.1 hp).1, fun y hy => h.mn y (List.mem_filter.1 hy).1, by omega⟩
theorem told_fst (M : List TI.T) (r : Int) : (toldOf M r).1 = r := by
 unfold toldOf
 split <;> rfl
theorem told_of {M : List TI.T} (h : Uniq M) {y : TI.T} (hy : y ∈ M) : toldOf M y.1 = y := by
 obtain ⟨w, h1, h2⟩ := mkey (ms := M) (r := y.1) h (List.any_eq_true.2 ⟨y, hy, by simp⟩)
 rw [toldOf_is h1]
 exact inj_of_nodup h _ h2 _ hy rfl
theorem told_mem {M : List TI.T} (h : Uniq M) (q : PR.T → Bool) {x : TT5.T} : x ∈ (isort ltI (refOf q M)).map (toldOf M) ↔ x ∈ M ∧ q x.2 = true := by
 rw [List.mem_map]
 constructor
 ·rintro ⟨r, hr, rfl⟩
  obtain ⟨y, hy, h1, rfl⟩ := mem_refs.1 hr
  rw [told_of h hy]
  exact ⟨hy, h1⟩
 ·rintro ⟨hx, hq⟩
  exact ⟨x.1, mem_refs.2 ⟨x, hx, hq, rfl⟩, told_of h hx⟩
theorem refs_sorted {q : PR.T → Bool} {M : List TI.T} (h : Uniq M) : (isort ltI (refOf q M)).Pairwise (· < ·) := by
 have h1 := isort_sorted swoI (refOf q M)
 have h2 : (isort ltI (refOf q M)).Nodup := by
  rw [(isort_perm ltI _).nodup_iff]
  exact h.sublist (List.filter_sublist.map _)
 exact (h1.and h2).imp fun {a b} hab => by
  have h3 : ¬ b < a := by simpa [ltI] using hab.1
  have := hab.2
  omega
theorem told_sorted {q : PR.T → Bool} {M : List TI.T} (h : Uniq M) : ((isort ltI (refOf q M)).map (toldOf M)).Pairwise fun x y => x.1 < y.1 := by
 rw [List.pairwise_map]
 exact (refs_sorted h).imp fun {a b} hab => by rw [told_fst, told_fst]; exact hab
end Go.Proofs.Ytjhgjbagmkiibaa.E
end
section
namespace Go.Proofs.Ytjhgjbagmkiibaa.E
open Go.Lg
set_option linter.unusedVariables false
set_option maxRecDepth 100000
set_option maxHeartbeats 8000000
set_option linter.unusedSimpArgs false
def sameB (s : Sh) : List s.T → List s.T → Bool
  | [], [] => true
  | x :: l, y :: r => eqb s x y && sameB s l r
  | _, _ => false
theorem sameB_iff {s : Sh} (hf : plainS s = true) : ∀ {l r : List s.T}, sameB s l r = true ↔ l = r
  | [], [] => by simp [sameB]
  | [], y :: r => by simp [sameB]
  | x :: l, [] => by simp [sameB]
  | x :: l, y :: r => by
    unfold sameB
    rw [Bool.and_eq_true, sameB_iff hf, List.cons.injEq, eqb_iff hf]
theorem sameT {s : Sh} (hf : plainS s = true) {l r : List s.T} {i : Int} (hi : (l.length : Int) ≤ i) (hn : (l.length : Int) = (r.length : Int)) (h : l.take i.toNat = r.take i.toNat) : true = sameB s l r := by
  rw [List.take_of_length_le (by omega), List.take_of_length_le (by omega)] at h
  exact ((sameB_iff hf).2 h).symm
theorem sameF {s : Sh} (hf : plainS s = true) {l r : List s.T} (h : l ≠ r) : false = sameB s l r := by
  cases e : sameB s l r with
  | false => rfl
  | true => exact absurd ((sameB_iff hf).1 e) h
theorem same_next {s : Sh} (hf : plainS s = true) {a b : List s.T} {i : Int} {x y : s.T} (h0 : 0 ≤ i) (h : a.take i.toNat = b.take i.toNat) (hx : a[i.toNat]? = some x) (hy : b[i.toNat]? = some y) (e : eqb s x y = true) : a.take (i + 1).toNat = b.take (i + 1).toNat := by
  rw [show (i + 1).toNat = i.toNat + 1 by omega, List.take_add_one, List.take_add_one, h, hx, hy, eqb_eq hf e]
theorem same_not {s : Sh} (hf : plainS s = true) {a b : List s.T} {i : Int} {x y : s.T} (hx : a[i.toNat]? = some x) (hy : b[i.toNat]? = some y) (e : eqb s x y = false) : a ≠ b := by
  rintro rfl
  rw [hx] at hy
  cases hy
  rw [eqb_refl hf] at e
  cases e
theorem samepids_ok (bz nz pz by_ ny py : Bool) (l r : List PD.T) (hl : (l.length : Int) ≤ 70368744177664) (hr : (r.length : Int) ≤ 70368744177664)  : PureC pg an 14 [.one (sv PD bz nz pz l), .one (sv PD by_ ny py r)] [.one (vb (sameB PD l r))] := by
 refine rOF Try.func14 rfl ?_
 refine rs0 [(0, .y (.one (sv PD bz nz pz l))), (1, .y (.one (sv PD by_ ny py r)))] ?_
 refine wS ?_
 rcases ieq ((l.length : Int)) ((r.length : Int)) with c1 | c1
 ·
  refine rSz [(0, .y (.one (sv PD bz nz pz l))), (1, .y (.one (sv PD by_ ny py r))), (10, xb false)] [] (zL 4 (Ja (vals := [xi (l.length : Int), xi (r.length : Int)]) (H := []) (op := .binOp .neq 3 (.tmp 0) (.tmp 1) 3) (ty := 0) (r := xb (bneI ((l.length : Int)) ((r.length : Int)))) (v := xb false) (by kernel_rfl) (congrArg (fun z => xb z) (bne_f (by omega))))) ?_
  refine wFk ?_
  refine wS ?_
  refine rs0 [(0, .y (.one (sv PD bz nz pz l))), (1, .y (.one (sv PD by_ ny py r))), (5, xi 0)] ?_
  refine wB ?_
  refine Wp.loop (T := HH × Int) (fun t => match t with | (H3, i) => (((l.length : Int) - i).toNat : Nat)) (fun t => match t with | (H3, i) => ([(0, .y (.one (sv PD bz nz pz l))), (1, .y (.one (sv PD by_ ny py r))), (5, xi i)] : Env)) (fun t => match t with | (H3, i) => (H3 : HH))
    (fun t => match t with | (H3, i) => (On [] H3 ∧ (0 ≤ i) ∧ (i ≤ (l.length : Int)) ∧ (l.take i.toNat = r.take i.toNat) : Prop)) ([], 0) (by kernel_rfl) (⟨(On.pick [] [] (by kernel_rfl) (On.nil [])), by omega, by omega, by simp⟩) ?_
  rintro ⟨H3, i⟩ ⟨hs4, h1, h2, h3⟩
  show Wp _ _ _ _ [(0, .y (.one (sv PD bz nz pz l))), (1, .y (.one (sv PD by_ ny py r))), (5, xi i)] H3 _
  refine wS ?_
  rcases ilt (i) ((l.length : Int)) with c5 | c5
  ·
   refine rSz [(0, .y (.one (sv PD bz nz pz l))), (1, .y (.one (sv PD by_ ny py r))), (5, xi i), (14, xb true)] H3 (zL 3 (qlssT H3 i (l.length : Int))) ?_
   refine wTk ?_
   refine wS (wB ?_)
   obtain ⟨x6, hx6⟩ : ∃ x, l[(i : Int).toNat]? = some x := get_of (by omega)
   obtain ⟨x7, hx7⟩ : ∃ x, r[(i : Int).toNat]? = some x := get_of (by omega)
   rcases Bool.eq_false_or_eq_true ((eqb PD x6 x7)) with c8 | c8
   ·
    refine rSz [(0, .y (.one (sv PD bz nz pz l))), (1, .y (.one (sv PD by_ ny py r))), (5, xi i), (25, xb false)] H3 (zA 2 (Jb (H := H3) (s := PD) (b := bz) (nil := nz) (capd := pz) (t := 32) (el := 24) (i := i) Try.underlying32 (by kernel_rfl) (by kernel_rfl) (by omega) hx6) (zA 6 (Jb (H := H3) (s := PD) (b := by_) (nil := ny) (capd := py) (t := 32) (el := 24) (i := i) Try.underlying32 (by kernel_rfl) (by kernel_rfl) (by omega) hx7) (zL 8 (Jg (H := H3) (s := PD) (t := 24) (u := 24) (ty := 0) (x := x6) (y := x7) (r := false) (by kernel_rfl) c8)))) ?_
    refine wFk ?_
    refine rRz [(0, .y (.one (sv PD bz nz pz l))), (1, .y (.one (sv PD by_ ny py r))), (5, xi (i + 1))] H3 (zL 1 (qoAdd H3 i 1 (i + 1))) ?_
    exact ⟨(H3, (i + 1)), by kernel_rfl, (⟨(On.pick [] [] (by kernel_rfl) hs4), by omega, by omega, same_next rfl (by omega) h3 hx6 hx7 c8⟩), (by show (_ : Nat) < _; simp only []; omega)⟩
   refine rSz [(0, .y (.one (sv PD bz nz pz l))), (1, .y (.one (sv PD by_ ny py r))), (5, xi i), (25, xb true)] H3 (zA 2 (Jb (H := H3) (s := PD) (b := bz) (nil := nz) (capd := pz) (t := 32) (el := 24) (i := i) Try.underlying32 (by kernel_rfl) (by kernel_rfl) (by omega) hx6) (zA 6 (Jb (H := H3) (s := PD) (b := by_) (nil := ny) (capd := py) (t := 32) (el := 24) (i := i) Try.underlying32 (by kernel_rfl) (by kernel_rfl) (by omega) hx7) (zL 8 (Jg (H := H3) (s := PD) (t := 24) (u := 24) (ty := 0) (x := x6) (y := x7) (r := true) (by kernel_rfl) c8)))) ?_
   refine wTa ?_
   refine rs0 [(4, xb false)] ?_
   refine wE ?_
   refine ⟨Or.inr rfl, [.one (vb false)], (by kernel_rfl), ?_⟩
   rw [show [Y.one (vb (sameB PD l r))] = [.one (vb false)] from congrArg (fun z => [Y.one (vb z)]) (sameF rfl (same_not rfl hx6 hx7 c8)).symm]
   exact (by kernel_rfl)
  refine rSz [(0, .y (.one (sv PD bz nz pz l))), (1, .y (.one (sv PD by_ ny py r))), (5, xi i), (14, xb false)] H3 (zL 3 (qlssF H3 i (l.length : Int))) ?_
  refine wFa ?_
  refine wX ?_
  refine Eq.mpr (if_pos rfl) ?_
  refine rs0 [(4, xb true)] ?_
  refine wE ?_
  refine ⟨Or.inr rfl, [.one (vb true)], (by kernel_rfl), ?_⟩
  rw [show [Y.one (vb (sameB PD l r))] = [.one (vb true)] from congrArg (fun z => [Y.one (vb z)]) (sameT rfl (by omega) (by omega) h3).symm]
  exact (by kernel_rfl)
 refine rSz [(0, .y (.one (sv PD bz nz pz l))), (1, .y (.one (sv PD by_ ny py r))), (10, xb true)] [] (zL 4 (Ja (vals := [xi (l.length : Int), xi (r.length : Int)]) (H := []) (op := .binOp .neq 3 (.tmp 0) (.tmp 1) 3) (ty := 0) (r := xb (bneI ((l.length : Int)) ((r.length : Int)))) (v := xb true) (by kernel_rfl) (congrArg (fun z => xb z) (bne_t (by omega))))) ?_
 refine wTa ?_
 refine rs0 [(4, xb false)] ?_
 refine wE ?_
 refine ⟨Or.inr rfl, [.one (vb false)], (by kernel_rfl), ?_⟩
 rw [show [Y.one (vb (sameB PD l r))] = [.one (vb false)] from congrArg (fun z => [Y.one (vb z)]) (sameF rfl (fun he => by have h9 := congrArg List.length he; omega)).symm]
 exact (by kernel_rfl)
theorem same_ok (bz nz pz by_ ny py : Bool) (l r : List TT5.T) (hl : (l.length : Int) ≤ 70368744177664) (hr : (r.length : Int) ≤ 70368744177664)  : PureC pg an 20 [.one (sv TT5 bz nz pz l), .one (sv TT5 by_ ny py r)] [.one (vb (sameB TT5 l r))] := by
 refine rOF Try.func20 rfl ?_
 refine rs0 [(0, .y (.one (sv TT5 bz nz pz l))), (1, .y (.one (sv TT5 by_ ny py r)))] ?_
 refine wS ?_
 rcases ieq ((l.length : Int)) ((r.length : Int)) with c1 | c1
 ·
  refine rSz [(0, .y (.one (sv TT5 bz nz pz l))), (1, .y (.one (sv TT5 by_ ny py r))), (10, xb false)] [] (zL 4 (Ja (vals := [xi (l.length : Int), xi (r.length : Int)]) (H := []) (op := .binOp .neq 3 (.tmp 0) (.tmp 1) 3) (ty := 0) (r := xb (bneI ((l.length : Int)) ((r.length : Int)))) (v := xb false) (by kernel_rfl) (congrArg (fun z => xb z) (bne_f (by omega))))) ?_
  refine wFk ?_
  refine wS ?_
  refine rs0 [(0, .y (.one (sv TT5 bz nz pz l))), (1, .y (.one (sv TT5 by_ ny py r))), (5, xi 0)] ?_
  refine wB ?_
  refine Wp.loop (T := HH × Int) (fun t => match t with | (H3, i) => (((l.length : Int) - i).toNat : Nat)) (fun t => match t with | (H3, i) => ([(0, .y (.one (sv TT5 bz nz pz l))), (1, .y (.one (sv TT5 by_ ny py r))), (5, xi i)] : Env)) (fun t => match t with | (H3, i) => (H3 : HH))
    (fun t => match t with | (H3, i) => (On [] H3 ∧ (0 ≤ i) ∧ (i ≤ (l.length : Int)) ∧ (l.take i.toNat = r.take i.toNat) : Prop)) ([], 0) (by kernel_rfl) (⟨(On.pick [] [] (by kernel_rfl) (On.nil [])), by omega, by omega, by simp⟩) ?_
  rintro ⟨H3, i⟩ ⟨hs4, h1, h2, h3⟩
  show Wp _ _ _ _ [(0, .y (.one (sv TT5 bz nz pz l))), (1, .y (.one (sv TT5 by_ ny py r))), (5, xi i)] H3 _
  refine wS ?_
  rcases ilt (i) ((l.length : Int)) with c5 | c5
  ·
   refine rSz [(0, .y (.one (sv TT5 bz nz pz l))), (1, .y (.one (sv TT5 by_ ny py r))), (5, xi i), (14, xb true)] H3 (zL 3 (qlssT H3 i (l.length : Int))) ?_
   refine wTk ?_
   refine wS (wB ?_)
   obtain ⟨x6, hx6⟩ : ∃ x, l[(i : Int).toNat]? = some x := get_of (by omega)
   obtain ⟨x7, hx7⟩ : ∃ x, r[(i : Int).toNat]? = some x := get_of (by omega)
   rcases Bool.eq_false_or_eq_true ((eqb TT5 x6 x7)) with c8 | c8
   ·
    refine rSz [(0, .y (.one (sv TT5 bz nz pz l))), (1, .y (.one (sv TT5 by_ ny py r))), (5, xi i), (25, xb false)] H3 (zA 2 (Jb (H := H3) (s := TT5) (b := bz) (nil := nz) (capd := pz) (t := 35) (el := 41) (i := i) Try.underlying35 (by kernel_rfl) (by kernel_rfl) (by omega) hx6) (zA 6 (Jb (H := H3) (s := TT5) (b := by_) (nil := ny) (capd := py) (t := 35) (el := 41) (i := i) Try.underlying35 (by kernel_rfl) (by kernel_rfl) (by omega) hx7) (zL 8 (Jg (H := H3) (s := TT5) (t := 41) (u := 41) (ty := 0) (x := x6) (y := x7) (r := false) (by kernel_rfl) c8)))) ?_
    refine wFk ?_
    refine rRz [(0, .y (.one (sv TT5 bz nz pz l))), (1, .y (.one (sv TT5 by_ ny py r))), (5, xi (i + 1))] H3 (zL 1 (qoAdd H3 i 1 (i + 1))) ?_
    exact ⟨(H3, (i + 1)), by kernel_rfl, (⟨(On.pick [] [] (by kernel_rfl) hs4), by omega, by omega, same_next rfl (by omega) h3 hx6 hx7 c8⟩), (by show (_ : Nat) < _; simp only []; omega)⟩
   refine rSz [(0, .y (.one (sv TT5 bz nz pz l))), (1, .y (.one (sv TT5 by_ ny py r))), (5, xi i), (25, xb true)] H3 (zA 2 (Jb (H := H3) (s := TT5) (b := bz) (nil := nz) (capd := pz) (t := 35) (el := 41) (i := i) Try.underlying35 (by kernel_rfl) (by kernel_rfl) (by omega) hx6) (zA 6 (Jb (H := H3) (s := TT5) (b := by_) (nil := ny) (capd := py) (t := 35) (el := 41) (i := i) Try.underlying35 (by kernel_rfl) (by kernel_rfl) (by omega) hx7) (zL 8 (Jg (H := H3) (s := TT5) (t := 41) (u := 41) (ty := 0) (x := x6) (y := x7) (r := true) (by kernel_rfl) c8)))) ?_
   refine wTa ?_
   refine rs0 [(4, xb false)] ?_
   refine wE ?_
   refine ⟨Or.inr rfl, [.one (vb false)], (by kernel_rfl), ?_⟩
   rw [show [Y.one (vb (sameB TT5 l r))] = [.one (vb false)] from congrArg (fun z => [Y.one (vb z)]) (sameF rfl (same_not rfl hx6 hx7 c8)).symm]
   exact (by kernel_rfl)
  refine rSz [(0, .y (.one (sv TT5 bz nz pz l))), (1, .y (.one (sv TT5 by_ ny py r))), (5, xi i), (14, xb false)] H3 (zL 3 (qlssF H3 i (l.length : Int))) ?_
  refine wFa ?_
  refine wX ?_
  refine Eq.mpr (if_pos rfl) ?_
  refine rs0 [(4, xb true)] ?_
  refine wE ?_
  refine ⟨Or.inr rfl, [.one (vb true)], (by kernel_rfl), ?_⟩
  rw [show [Y.one (vb (sameB TT5 l r))] = [.one (vb true)] from congrArg (fun z => [Y.one (vb z)]) (sameT rfl (by omega) (by omega) h3).symm]
  exact (by kernel_rfl)
 refine rSz [(0, .y (.one (sv TT5 bz nz pz l))), (1, .y (.one (sv TT5 by_ ny py r))), (10, xb true)] [] (zL 4 (Ja (vals := [xi (l.length : Int), xi (r.length : Int)]) (H := []) (op := .binOp .neq 3 (.tmp 0) (.tmp 1) 3) (ty := 0) (r := xb (bneI ((l.length : Int)) ((r.length : Int)))) (v := xb true) (by kernel_rfl) (congrArg (fun z => xb z) (bne_t (by omega))))) ?_
 refine wTa ?_
 refine rs0 [(4, xb false)] ?_
 refine wE ?_
 refine ⟨Or.inr rfl, [.one (vb false)], (by kernel_rfl), ?_⟩
 rw [show [Y.one (vb (sameB TT5 l r))] = [.one (vb false)] from congrArg (fun z => [Y.one (vb z)]) (sameF rfl (fun he => by have h9 := congrArg List.length he; omega)).symm]
 exact (by kernel_rfl)
end Go.Proofs.Ytjhgjbagmkiibaa.E
end
