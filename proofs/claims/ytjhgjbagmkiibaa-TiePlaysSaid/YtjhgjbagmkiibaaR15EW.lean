/- Lemmas. -/
import Derived.Test.YtjhgjbagmkiibaaR15EU
import Derived.Test.YtjhgjbagmkiibaaR15EG
namespace Go.Proofs.Ytjhgjbagmkiibaa.E
open Go.Lg
set_option linter.unusedVariables false
set_option maxRecDepth 100000
set_option maxHeartbeats 8000000
set_option linter.unusedSimpArgs false
theorem dlks_len (l : List TT5.T) (a : PD.T) : ((dlks l a).length : Int) ≤ 2 * (l.length : Int) := by
  have h := dlkj_len l a (j := (l.length : Int)) (Int.natCast_nonneg _)
  rw [take_all (Int.le_refl _)] at h
  show ((dlk1 l a ++ dlk2 l a).length : Int) ≤ _
  omega
theorem dwat_len2 (l : List TT5.T) (a : PD.T) : ((dwat l a).length : Int) ≤ (l.length : Int) := Int.ofNat_le.2 (List.length_filter_le _ _)
theorem is_ok (R : HP) (H : HH) (tt l mo : Nat) (L : List PR.T) (M : List TI.T) (rb rn rp : Bool) (D : List TT5.T) (p : PD.T) (hs : On [R, pts tt (.obj [.mp l, .mp mo]), pts l (lnkO L), pts mo (monO M)] H) (hI : TieInv L M) (hD : allOf L M = D) : ∃ rs H', Runs pg an 21 [.one (.ptr tt 0), .agg [vb true, sv TT5 rb rn rp D], .agg [vi p.1, vi p.2.1]] H rs H' ∧ rs = [.one (vb true)] ∧ On [R, pts tt (.obj [.mp l, .mp mo]), pts l (lnkO L), pts mo (monO M)] H' := by
 have hs1 : sameB TT5 (allOf L M) D = true := (sameB_iff rfl).2 hD
 have hs2 : sameB PD (isort ltD (lnkOf L p)) (dlks D p) = true := (sameB_iff rfl).2 (by rw [← hD, dlks_is hI])
 have hs3 : sameB TT5 (watOf M p) (dwat D p) = true := (sameB_iff rfl).2 (by rw [← hD, dwat_is hI])
 have hDl : (D.length : Int) ≤ 1024 := by rw [← hD]; exact hI.len
 have hz0 := hI.sz
 refine rOF Try.func21 rfl ?_
 obtain ⟨n1, hn1⟩ := lX H
 obtain ⟨n2, hn2⟩ := lX (H ++ [.obj [vb true, sv TT5 rb rn rp D]])
 refine rGz [(0, yp tt), (4, yp n1), (5, yp n2)] (On.new' hn2 (.obj [vi p.1, vi p.2.1]) (On.new' hn1 (.obj [vb true, sv TT5 rb rn rp D]) hs)) (zA 0 (qB 48 [vb true, sv TT5 rb rn rp D] hn1) (zL 1 (qB 24 [vi p.1, vi p.2.1] hn2))) fun H3 hs4 => ?_
 obtain ⟨_, H7, hr8, c5, rfl, hs9⟩ := all_c (A := an) rfl rfl _ ((hideH [n2] H3) : HH) tt l mo L M (On.call [1, 2, 3] [0, 4, 5] (by kernel_rfl) (On.hide1 hs4 5 rfl)) hI.ok
 have hs9 : On [R, pts n1 (.obj [vb true, sv TT5 rb rn rp D]), pts n2 (.map (.fro [vi p.1, vi p.2.1])), pts tt (.obj [.mp l, .mp mo]), pts l (lnkO L), pts mo (monO M), ownP TT5 c5 (allOf L M)] H7 := On.flat hs9
 have hk6 : ((allOf L M).length : Int) = (L.length : Int) + (M.length : Int) := allLen _ _
 obtain ⟨_, H12, hr13, c10, rfl, hs14⟩ := links_c (A := an) rfl rfl _ ((hideH [n2] (backH [n2] H3 H7)) : HH) tt l mo L M p (On.call [3, 4, 5] [0, 1, 2, 6] (by kernel_rfl) (On.hide1 (On.back1 hs9 2 rfl (On.at hs4 5 rfl)) 2 rfl)) hI.ok
 have hs14 : On [R, pts n1 (.obj [vb true, sv TT5 rb rn rp D]), pts n2 (.map (.fro [vi p.1, vi p.2.1])), ownP TT5 c5 (allOf L M), pts tt (.obj [.mp l, .mp mo]), pts l (lnkO L), pts mo (monO M), ownP PD c10 (isort ltD (lnkOf L p))] H12 := On.flat hs14
 have hk11 : ((isort ltD (lnkOf L p)).length : Int) ≤ (L.length : Int) := lenLd _ _
 obtain ⟨_, H17, hr18, c15, rfl, hs19⟩ := watchers_ok _ ((backH [n2] (backH [n2] H3 H7) H12) : HH) tt l mo L M p (On.call [4, 5, 6] [0, 1, 2, 3, 7] (by kernel_rfl) (On.back1 hs14 2 rfl (On.at (On.back1 hs9 2 rfl (On.at hs4 5 rfl)) 2 rfl))) hI.ok
 have hs19 : On [R, pts n1 (.obj [vb true, sv TT5 rb rn rp D]), pts n2 (.obj [vi p.1, vi p.2.1]), ownP TT5 c5 (allOf L M), ownP PD c10 (isort ltD (lnkOf L p)), pts tt (.obj [.mp l, .mp mo]), pts l (lnkO L), pts mo (monO M), ownP TT5 c15 (watOf M p)] H17 := On.flat hs19
 have hk16 : ((watOf M p).length : Int) ≤ (M.length : Int) := lenWd _ _
 refine rSq [(1, .y (.one (c5)), (backH [n2] H3 H7)), (3, .y (.agg [vi p.1, vi p.2.1]), (backH [n2] H3 H7)), (4, .y (.one (c10)), (backH [n2] (backH [n2] H3 H7) H12)), (6, .y (.agg [vi p.1, vi p.2.1]), (backH [n2] (backH [n2] H3 H7) H12)), (7, .y (.one (c15)), H17)] [(0, yp tt), (4, yp n1), (5, yp n2), (7, .y (.one (c5))), (8, .y (.one (c10))), (9, .y (.one (c15)))] H17
   (cast (Jai (ob_out (M := [n2]) (H := H3) (H' := H7) (H2 := (backH [n2] H3 H7)) (mayHide1 (On.at hs4 5 rfl) rfl) (Jl hr8 (by kernel_rfl)) rfl) (Jai (ob_ins (H := (backH [n2] H3 H7)) (Je (t := 24) (off := 0) (v := .agg [vi p.1, vi p.2.1]) (onlyH_at (M := [n2]) (by simp) (On.at (On.back1 hs9 2 rfl (On.at hs4 5 rfl)) 2 rfl)) (by kernel_rfl))) (Jai (ob_out (M := [n2]) (H := (backH [n2] H3 H7)) (H' := H12) (H2 := (backH [n2] (backH [n2] H3 H7) H12)) (mayHide1 (On.at (On.back1 hs9 2 rfl (On.at hs4 5 rfl)) 2 rfl) rfl) (Jq hr13 (by kernel_rfl)) rfl) (Jai (ob_ins (H := (backH [n2] (backH [n2] H3 H7) H12)) (Je (t := 24) (off := 0) (v := .agg [vi p.1, vi p.2.1]) (onlyH_at (M := [n2]) (by simp) (On.at (On.back1 hs14 2 rfl (On.at (On.back1 hs9 2 rfl (On.at hs4 5 rfl)) 2 rfl)) 2 rfl)) (by kernel_rfl))) (JZ (Jq hr18 (by kernel_rfl))))))) (by kernel_rfl)) (by kernel_rfl) ?_
 refine wG hs19 fun H20 hs21 => ?_
 obtain ⟨fb22, fn23, fp24, hf25⟩ := own_snap hs21 3 rfl
 obtain ⟨n26, p27, hp28⟩ := rlinks_ok rb rn rp D (by first | rfl | omega | (simp only [ek_]; omega) | (simp; done) | (simp; omega)) p
 have hl29 : ((dlks D p).length : Int) ≤ 2 * (D.length : Int) := dlks_len _ _
 obtain ⟨fb30, fn31, fp32, hf33⟩ := own_snap hs21 4 rfl
 obtain ⟨n34, p35, hp36⟩ := rwat_ok rb rn rp D (by first | rfl | omega | (simp only [ek_]; omega) | (simp; done) | (simp; omega)) p
 have hl37 : ((dwat D p).length : Int) ≤ (D.length : Int) := dwat_len2 _ _
 obtain ⟨fb38, fn39, fp40, hf41⟩ := own_snap hs21 8 rfl
 refine rSz [(0, yp tt), (4, yp n1), (7, .y (.one (c5))), (8, .y (.one (c10))), (9, .y (.one (c15))), (10, xb true)] H20 (zA 2 (qL 35 1 (.one (sv TT5 rb rn rp D)) (On.at hs21 1 rfl)) (zA 3 (Ji (H := H20) (g := 20) (vals := [.y (.one (c5)), .y (.one (sv TT5 rb rn rp D))]) (xs0 := [.one (c5), .one (sv TT5 rb rn rp D)]) (xs1 := [.one (sv TT5 fb22 fn23 fp24 (allOf L M)), .one (sv TT5 rb rn rp D)]) (res := [.one (vb true)]) (ats := #[]) (ty := 0) (v := xb true) [.tmp 0, .tmp 1] (by kernel_rfl) (by kernel_rfl) (snap_cons (snap_one hf25) (snap_cons (by kernel_rfl) (snap_nil))) (by have h9 := same_ok fb22 fn23 fp24 rb rn rp (allOf L M) D (by first | rfl | omega | (simp only [ek_]; omega) | (simp; done) | (simp; omega)) (by first | rfl | omega | (simp only [ek_]; omega) | (simp; done) | (simp; omega)); rw [hs1] at h9; exact h9) (by kernel_rfl)) (zA 6 (qA 48 (On.at hs21 1 rfl)) (zA 7 (qL 24 0 (.agg [vi p.1, vi p.2.1]) (On.at hs21 2 rfl)) (zA 8 (qP2 H20 hp28) (zA 9 (Ji (H := H20) (g := 14) (vals := [.y (.one (c10)), .y (.one (sv PD false n26 p27 (dlks D p)))]) (xs0 := [.one (c10), .one (sv PD false n26 p27 (dlks D p))]) (xs1 := [.one (sv PD fb30 fn31 fp32 (isort ltD (lnkOf L p))), .one (sv PD false n26 p27 (dlks D p))]) (res := [.one (vb true)]) (ats := #[]) (ty := 0) (v := xb true) [.tmp 0, .tmp 1] (by kernel_rfl) (by kernel_rfl) (snap_cons (snap_one hf33) (snap_cons (by kernel_rfl) (snap_nil))) (by have h9 := samepids_ok fb30 fn31 fp32 false n26 p27 (isort ltD (lnkOf L p)) (dlks D p) (by first | rfl | omega | (simp only [ek_]; omega) | (simp; done) | (simp; omega)) (by first | rfl | omega | (simp only [ek_]; omega) | (simp; done) | (simp; omega)); rw [hs2] at h9; exact h9) (by kernel_rfl)) (zA 13 (qA 48 (On.at hs21 1 rfl)) (zA 14 (qL 24 0 (.agg [vi p.1, vi p.2.1]) (On.at hs21 2 rfl)) (zA 15 (qP2 H20 hp36) (zL 16 (Ji (H := H20) (g := 20) (vals := [.y (.one (c15)), .y (.one (sv TT5 false n34 p35 (dwat D p)))]) (xs0 := [.one (c15), .one (sv TT5 false n34 p35 (dwat D p))]) (xs1 := [.one (sv TT5 fb38 fn39 fp40 (watOf M p)), .one (sv TT5 false n34 p35 (dwat D p))]) (res := [.one (vb true)]) (ats := #[]) (ty := 0) (v := xb true) [.tmp 0, .tmp 1] (by kernel_rfl) (by kernel_rfl) (snap_cons (snap_one hf41) (snap_cons (by kernel_rfl) (snap_nil))) (by have h9 := same_ok fb38 fn39 fp40 false n34 p35 (watOf M p) (dwat D p) (by first | rfl | omega | (simp only [ek_]; omega) | (simp; done) | (simp; omega)) (by first | rfl | omega | (simp only [ek_]; omega) | (simp; done) | (simp; omega)); rw [hs3] at h9; exact h9) (by kernel_rfl)))))))))))) ?_
 refine wS ?_
 refine rs0 [(0, yp tt), (4, yp n1), (7, .y (.one (c5))), (8, .y (.one (c10))), (9, .y (.one (c15))), (10, xb true), (11, xi 0)] ?_
 refine wB ?_
 obtain ⟨rfl, hl44, hs42⟩ | ⟨k45, rfl, k45z, hs43⟩ := own_open hs21 3 rfl
 ·
  have hl44n : ((allOf L M).length : Int) = 0 := by rw [hl44]; rfl
  refine Wp.loopU [(0, yp tt), (4, yp n1), (7, .y (.one (nilC))), (8, .y (.one (c10))), (9, .y (.one (c15))), (10, xb true), (11, xi 0)] (some ([0, 4, 7, 8, 9, 10, 11], false)) (List.length H20) (by kernel_rfl) ?_
  refine WpL.step ?_
  refine wS ?_
  refine rs0 [(0, yp tt), (4, yp n1), (7, .y (.one (nilC))), (8, .y (.one (c10))), (9, .y (.one (c15))), (10, xb true), (11, xi 0), (43, xb false)] ?_
  refine wFa ?_
  refine wX ?_
  refine Eq.mpr (if_pos rfl) ?_
  refine wS ?_
  refine rs0 [(0, yp tt), (4, yp n1), (8, .y (.one (c10))), (9, .y (.one (c15))), (10, xb true), (12, xi 0)] ?_
  refine wB ?_
  obtain ⟨rfl, hl48, hs46⟩ | ⟨k49, rfl, k49z, hs47⟩ := own_open hs42 3 rfl
  ·
   have hl48n : ((isort ltD (lnkOf L p)).length : Int) = 0 := by rw [hl48]; rfl
   refine Wp.loopU [(0, yp tt), (4, yp n1), (8, .y (.one (nilC))), (9, .y (.one (c15))), (10, xb true), (12, xi 0)] (some ([0, 4, 8, 9, 10, 12], false)) (List.length H20) (by kernel_rfl) ?_
   refine WpL.step ?_
   refine wS ?_
   refine rs0 [(0, yp tt), (4, yp n1), (8, .y (.one (nilC))), (9, .y (.one (c15))), (10, xb true), (12, xi 0), (53, xb false)] ?_
   refine wFa ?_
   refine wX ?_
   refine Eq.mpr (if_pos rfl) ?_
   refine wS ?_
   refine rs0 [(0, yp tt), (4, yp n1), (9, .y (.one (c15))), (10, xb true), (13, xi 0)] ?_
   refine wB ?_
   obtain ⟨rfl, hl52, hs50⟩ | ⟨k53, rfl, k53z, hs51⟩ := own_open hs46 6 rfl
   ·
    have hl52n : ((watOf M p).length : Int) = 0 := by rw [hl52]; rfl
    refine Wp.loopU [(0, yp tt), (4, yp n1), (9, .y (.one (nilC))), (10, xb true), (13, xi 0)] (some ([0, 4, 9, 10, 13], false)) (List.length H20) (by kernel_rfl) ?_
    refine WpL.step ?_
    refine wS ?_
    refine rs0 [(0, yp tt), (4, yp n1), (9, .y (.one (nilC))), (10, xb true), (13, xi 0), (63, xb false)] ?_
    refine wFa ?_
    refine wX ?_
    refine Eq.mpr (if_pos rfl) ?_
    obtain ⟨_, H56, hr57, c54, rfl, hs58⟩ := all_c (A := an) rfl rfl _ ((hideH [n1] H20) : HH) tt l mo L M (On.call [3, 4, 5] [0, 1, 2] (by kernel_rfl) (On.hide1 hs50 1 rfl)) hI.ok
    have hs58 : On [R, pts n1 (.map (.fro [vb true, sv TT5 rb rn rp D])), pts n2 (.obj [vi p.1, vi p.2.1]), pts tt (.obj [.mp l, .mp mo]), pts l (lnkO L), pts mo (monO M), ownP TT5 c54 (allOf L M)] H56 := On.flat hs58
    have hk55 : ((allOf L M).length : Int) = (L.length : Int) + (M.length : Int) := allLen _ _
    obtain ⟨fb59, fn60, fp61, hf62⟩ := own_snap (On.back1 hs58 1 rfl (On.at hs50 1 rfl)) 6 rfl
    refine rSq [(3, .y (.one (c54)), (backH [n1] H20 H56)), (5, .y (.one (sv TT5 rb rn rp D)), (backH [n1] H20 H56)), (6, xb true, (backH [n1] H20 H56))] [(6, xb true)] (backH [n1] H20 H56)
      (cast (Jai (ob_out (M := [n1]) (H := H20) (H' := H56) (H2 := (backH [n1] H20 H56)) (mayHide1 (On.at hs50 1 rfl) rfl) (Jl hr57 (by kernel_rfl)) rfl) (Jai (ob_ins (H := (backH [n1] H20 H56)) (Je (t := 35) (off := 1) (v := .one (sv TT5 rb rn rp D)) (onlyH_at (M := [n1]) (by simp) (On.at (On.back1 hs58 1 rfl (On.at hs50 1 rfl)) 1 rfl)) (by kernel_rfl))) (JZ (Ji (H := (backH [n1] H20 H56)) (g := 20) (vals := [.y (.one (c54)), .y (.one (sv TT5 rb rn rp D))]) (xs0 := [.one (c54), .one (sv TT5 rb rn rp D)]) (xs1 := [.one (sv TT5 fb59 fn60 fp61 (allOf L M)), .one (sv TT5 rb rn rp D)]) (res := [.one (vb true)]) (ats := #[]) (ty := 0) (v := xb true) [.tmp 0, .tmp 1] (by kernel_rfl) (by kernel_rfl) (snap_cons (snap_one hf62) (snap_cons (by kernel_rfl) (snap_nil))) (by have h9 := same_ok fb59 fn60 fp61 rb rn rp (allOf L M) D (by first | rfl | omega | (simp only [ek_]; omega) | (simp; done) | (simp; omega)) (by first | rfl | omega | (simp only [ek_]; omega) | (simp; done) | (simp; omega)); rw [hs1] at h9; exact h9) (by kernel_rfl))))) (by kernel_rfl)) (by kernel_rfl) ?_
    refine wG (On.back1 hs58 1 rfl (On.at hs50 1 rfl)) fun H63 hs64 => ?_
    refine wE ?_
    refine ⟨Or.inr rfl, [.one (vb true)], (by kernel_rfl), ?_⟩
    exact ⟨rfl, (On.pick [0, 3, 4, 5] [1, 2, 6] (by kernel_rfl) hs64)⟩
   refine Wp.loop (T := HH × Int × List TT5.T) (fun t => match t with | (H66, i3, Z3) => ((((watOf M p).length : Int) - i3).toNat : Nat)) (fun t => match t with | (H66, i3, Z3) => ([(0, yp tt), (4, yp n1), (9, .y (.one (rowC k53 0 Z3.length 0 ((watOf M p).length) false))), (10, xb true), (13, xi i3)] : Env)) (fun t => match t with | (H66, i3, Z3) => (H66 : HH))
     (fun t => match t with | (H66, i3, Z3) => (On [R, pts n1 (.obj [vb true, sv TT5 rb rn rp D]), pts n2 (.obj [vi p.1, vi p.2.1]), pts tt (.obj [.mp l, .mp mo]), pts l (lnkO L), pts mo (monO M), pts k53 (rowO TT5 true 0 Z3)] H66 ∧ (0 ≤ i3) ∧ (i3 ≤ ((watOf M p).length : Int)) ∧ ((Z3.length : Int) = (watOf M p).length) : Prop)) (H20, 0, (watOf M p)) (by kernel_rfl) (⟨(On.pick [0, 1, 2, 3, 4, 5, 6] [] (by kernel_rfl) hs51), by omega, by omega, rfl⟩) ?_
   rintro ⟨H66, i3, Z3⟩ ⟨hs67, hi31, hi32, hi33⟩
   show Wp _ _ _ _ [(0, yp tt), (4, yp n1), (9, .y (.one (rowC k53 0 Z3.length 0 ((watOf M p).length) false))), (10, xb true), (13, xi i3)] H66 _
   refine wS ?_
   refine rSz [(0, yp tt), (4, yp n1), (9, .y (.one (rowC k53 0 Z3.length 0 ((watOf M p).length) false))), (10, xb true), (13, xi i3), (63, xb false)] H66 (zA 2 (Jf (H := H66) (s := TT5) (t := 35) (ty := 0) (pu := true) (capd := false) (id := k53) (d := 0) (o := 0) (n := ((watOf M p).length)) (l := Z3) (e := ((watOf M p).length : Int)) (On.at hs67 6 rfl) (by kernel_rfl) (by first | rfl | omega | (simp only [ek_]; omega) | (simp; done) | (simp; omega))) (zL 3 (qlssF H66 i3 ((watOf M p).length : Int)))) ?_
   refine wFa ?_
   refine wX ?_
   refine Eq.mpr (if_pos rfl) ?_
   obtain ⟨_, H70, hr71, c68, rfl, hs72⟩ := all_c (A := an) rfl rfl _ ((hideH [n1] H66) : HH) tt l mo L M (On.call [3, 4, 5] [0, 1, 2, 6] (by kernel_rfl) (On.hide1 hs67 1 rfl)) hI.ok
   have hs72 : On [R, pts n1 (.map (.fro [vb true, sv TT5 rb rn rp D])), pts n2 (.obj [vi p.1, vi p.2.1]), pts k53 (rowO TT5 true 0 Z3), pts tt (.obj [.mp l, .mp mo]), pts l (lnkO L), pts mo (monO M), ownP TT5 c68 (allOf L M)] H70 := On.flat hs72
   have hk69 : ((allOf L M).length : Int) = (L.length : Int) + (M.length : Int) := allLen _ _
   obtain ⟨fb73, fn74, fp75, hf76⟩ := own_snap (On.back1 hs72 1 rfl (On.at hs67 1 rfl)) 7 rfl
   refine rSq [(3, .y (.one (c68)), (backH [n1] H66 H70)), (5, .y (.one (sv TT5 rb rn rp D)), (backH [n1] H66 H70)), (6, xb true, (backH [n1] H66 H70))] [(6, xb true)] (backH [n1] H66 H70)
     (cast (Jai (ob_out (M := [n1]) (H := H66) (H' := H70) (H2 := (backH [n1] H66 H70)) (mayHide1 (On.at hs67 1 rfl) rfl) (Jl hr71 (by kernel_rfl)) rfl) (Jai (ob_ins (H := (backH [n1] H66 H70)) (Je (t := 35) (off := 1) (v := .one (sv TT5 rb rn rp D)) (onlyH_at (M := [n1]) (by simp) (On.at (On.back1 hs72 1 rfl (On.at hs67 1 rfl)) 1 rfl)) (by kernel_rfl))) (JZ (Ji (H := (backH [n1] H66 H70)) (g := 20) (vals := [.y (.one (c68)), .y (.one (sv TT5 rb rn rp D))]) (xs0 := [.one (c68), .one (sv TT5 rb rn rp D)]) (xs1 := [.one (sv TT5 fb73 fn74 fp75 (allOf L M)), .one (sv TT5 rb rn rp D)]) (res := [.one (vb true)]) (ats := #[]) (ty := 0) (v := xb true) [.tmp 0, .tmp 1] (by kernel_rfl) (by kernel_rfl) (snap_cons (snap_one hf76) (snap_cons (by kernel_rfl) (snap_nil))) (by have h9 := same_ok fb73 fn74 fp75 rb rn rp (allOf L M) D (by first | rfl | omega | (simp only [ek_]; omega) | (simp; done) | (simp; omega)) (by first | rfl | omega | (simp only [ek_]; omega) | (simp; done) | (simp; omega)); rw [hs1] at h9; exact h9) (by kernel_rfl))))) (by kernel_rfl)) (by kernel_rfl) ?_
   refine wG (On.back1 hs72 1 rfl (On.at hs67 1 rfl)) fun H77 hs78 => ?_
   refine wE ?_
   refine ⟨Or.inr rfl, [.one (vb true)], (by kernel_rfl), ?_⟩
   exact ⟨rfl, (On.pick [0, 4, 5, 6] [1, 2, 3, 7] (by kernel_rfl) hs78)⟩
  refine Wp.loop (T := HH × Int × List PD.T) (fun t => match t with | (H80, i2, Z2) => ((((isort ltD (lnkOf L p)).length : Int) - i2).toNat : Nat)) (fun t => match t with | (H80, i2, Z2) => ([(0, yp tt), (4, yp n1), (8, .y (.one (rowC k49 0 Z2.length 0 ((isort ltD (lnkOf L p)).length) false))), (9, .y (.one (c15))), (10, xb true), (12, xi i2)] : Env)) (fun t => match t with | (H80, i2, Z2) => (H80 : HH))
    (fun t => match t with | (H80, i2, Z2) => (On [R, pts n1 (.obj [vb true, sv TT5 rb rn rp D]), pts n2 (.obj [vi p.1, vi p.2.1]), pts tt (.obj [.mp l, .mp mo]), pts l (lnkO L), pts mo (monO M), ownP TT5 c15 (watOf M p), pts k49 (rowO PD true 0 Z2)] H80 ∧ (0 ≤ i2) ∧ (i2 ≤ ((isort ltD (lnkOf L p)).length : Int)) ∧ ((Z2.length : Int) = (isort ltD (lnkOf L p)).length) : Prop)) (H20, 0, (isort ltD (lnkOf L p))) (by kernel_rfl) (⟨(On.pick [0, 1, 2, 3, 4, 5, 6, 7] [] (by kernel_rfl) hs47), by omega, by omega, rfl⟩) ?_
  rintro ⟨H80, i2, Z2⟩ ⟨hs81, hi21, hi22, hi23⟩
  show Wp _ _ _ _ [(0, yp tt), (4, yp n1), (8, .y (.one (rowC k49 0 Z2.length 0 ((isort ltD (lnkOf L p)).length) false))), (9, .y (.one (c15))), (10, xb true), (12, xi i2)] H80 _
  refine wS ?_
  refine rSz [(0, yp tt), (4, yp n1), (8, .y (.one (rowC k49 0 Z2.length 0 ((isort ltD (lnkOf L p)).length) false))), (9, .y (.one (c15))), (10, xb true), (12, xi i2), (53, xb false)] H80 (zA 2 (Jf (H := H80) (s := PD) (t := 32) (ty := 0) (pu := true) (capd := false) (id := k49) (d := 0) (o := 0) (n := ((isort ltD (lnkOf L p)).length)) (l := Z2) (e := ((isort ltD (lnkOf L p)).length : Int)) (On.at hs81 7 rfl) (by kernel_rfl) (by first | rfl | omega | (simp only [ek_]; omega) | (simp; done) | (simp; omega))) (zL 3 (qlssF H80 i2 ((isort ltD (lnkOf L p)).length : Int)))) ?_
  refine wFa ?_
  refine wX ?_
  refine Eq.mpr (if_pos rfl) ?_
  refine wS ?_
  refine rs0 [(0, yp tt), (4, yp n1), (9, .y (.one (c15))), (10, xb true), (13, xi 0)] ?_
  refine wB ?_
  obtain ⟨rfl, hl84, hs82⟩ | ⟨k85, rfl, k85z, hs83⟩ := own_open hs81 6 rfl
  ·
   have hl84n : ((watOf M p).length : Int) = 0 := by rw [hl84]; rfl
   refine Wp.loopU [(0, yp tt), (4, yp n1), (9, .y (.one (nilC))), (10, xb true), (13, xi 0)] (some ([0, 4, 9, 10, 13], false)) (List.length H80) (by kernel_rfl) ?_
   refine WpL.step ?_
   refine wS ?_
   refine rs0 [(0, yp tt), (4, yp n1), (9, .y (.one (nilC))), (10, xb true), (13, xi 0), (63, xb false)] ?_
   refine wFa ?_
   refine wX ?_
   refine Eq.mpr (if_pos rfl) ?_
   obtain ⟨_, H88, hr89, c86, rfl, hs90⟩ := all_c (A := an) rfl rfl _ ((hideH [n1] H80) : HH) tt l mo L M (On.call [3, 4, 5] [0, 1, 2, 6] (by kernel_rfl) (On.hide1 hs82 1 rfl)) hI.ok
   have hs90 : On [R, pts n1 (.map (.fro [vb true, sv TT5 rb rn rp D])), pts n2 (.obj [vi p.1, vi p.2.1]), pts k49 (rowO PD true 0 Z2), pts tt (.obj [.mp l, .mp mo]), pts l (lnkO L), pts mo (monO M), ownP TT5 c86 (allOf L M)] H88 := On.flat hs90
   have hk87 : ((allOf L M).length : Int) = (L.length : Int) + (M.length : Int) := allLen _ _
   obtain ⟨fb91, fn92, fp93, hf94⟩ := own_snap (On.back1 hs90 1 rfl (On.at hs82 1 rfl)) 7 rfl
   refine rSq [(3, .y (.one (c86)), (backH [n1] H80 H88)), (5, .y (.one (sv TT5 rb rn rp D)), (backH [n1] H80 H88)), (6, xb true, (backH [n1] H80 H88))] [(6, xb true)] (backH [n1] H80 H88)
     (cast (Jai (ob_out (M := [n1]) (H := H80) (H' := H88) (H2 := (backH [n1] H80 H88)) (mayHide1 (On.at hs82 1 rfl) rfl) (Jl hr89 (by kernel_rfl)) rfl) (Jai (ob_ins (H := (backH [n1] H80 H88)) (Je (t := 35) (off := 1) (v := .one (sv TT5 rb rn rp D)) (onlyH_at (M := [n1]) (by simp) (On.at (On.back1 hs90 1 rfl (On.at hs82 1 rfl)) 1 rfl)) (by kernel_rfl))) (JZ (Ji (H := (backH [n1] H80 H88)) (g := 20) (vals := [.y (.one (c86)), .y (.one (sv TT5 rb rn rp D))]) (xs0 := [.one (c86), .one (sv TT5 rb rn rp D)]) (xs1 := [.one (sv TT5 fb91 fn92 fp93 (allOf L M)), .one (sv TT5 rb rn rp D)]) (res := [.one (vb true)]) (ats := #[]) (ty := 0) (v := xb true) [.tmp 0, .tmp 1] (by kernel_rfl) (by kernel_rfl) (snap_cons (snap_one hf94) (snap_cons (by kernel_rfl) (snap_nil))) (by have h9 := same_ok fb91 fn92 fp93 rb rn rp (allOf L M) D (by first | rfl | omega | (simp only [ek_]; omega) | (simp; done) | (simp; omega)) (by first | rfl | omega | (simp only [ek_]; omega) | (simp; done) | (simp; omega)); rw [hs1] at h9; exact h9) (by kernel_rfl))))) (by kernel_rfl)) (by kernel_rfl) ?_
   refine wG (On.back1 hs90 1 rfl (On.at hs82 1 rfl)) fun H95 hs96 => ?_
   refine wE ?_
   refine ⟨Or.inr rfl, [.one (vb true)], (by kernel_rfl), ?_⟩
   exact ⟨rfl, (On.pick [0, 4, 5, 6] [1, 2, 3, 7] (by kernel_rfl) hs96)⟩
  refine Wp.loop (T := HH × Int × List TT5.T) (fun t => match t with | (H98, i3, Z3) => ((((watOf M p).length : Int) - i3).toNat : Nat)) (fun t => match t with | (H98, i3, Z3) => ([(0, yp tt), (4, yp n1), (9, .y (.one (rowC k85 0 Z3.length 0 ((watOf M p).length) false))), (10, xb true), (13, xi i3)] : Env)) (fun t => match t with | (H98, i3, Z3) => (H98 : HH))
    (fun t => match t with | (H98, i3, Z3) => (On [R, pts n1 (.obj [vb true, sv TT5 rb rn rp D]), pts n2 (.obj [vi p.1, vi p.2.1]), pts tt (.obj [.mp l, .mp mo]), pts l (lnkO L), pts mo (monO M), pts k49 (rowO PD true 0 Z2), pts k85 (rowO TT5 true 0 Z3)] H98 ∧ (0 ≤ i3) ∧ (i3 ≤ ((watOf M p).length : Int)) ∧ ((Z3.length : Int) = (watOf M p).length) : Prop)) (H80, 0, (watOf M p)) (by kernel_rfl) (⟨(On.pick [0, 1, 2, 3, 4, 5, 6, 7] [] (by kernel_rfl) hs83), by omega, by omega, rfl⟩) ?_
  rintro ⟨H98, i3, Z3⟩ ⟨hs99, hi31, hi32, hi33⟩
  show Wp _ _ _ _ [(0, yp tt), (4, yp n1), (9, .y (.one (rowC k85 0 Z3.length 0 ((watOf M p).length) false))), (10, xb true), (13, xi i3)] H98 _
  refine wS ?_
  refine rSz [(0, yp tt), (4, yp n1), (9, .y (.one (rowC k85 0 Z3.length 0 ((watOf M p).length) false))), (10, xb true), (13, xi i3), (63, xb false)] H98 (zA 2 (Jf (H := H98) (s := TT5) (t := 35) (ty := 0) (pu := true) (capd := false) (id := k85) (d := 0) (o := 0) (n := ((watOf M p).length)) (l := Z3) (e := ((watOf M p).length : Int)) (On.at hs99 7 rfl) (by kernel_rfl) (by first | rfl | omega | (simp only [ek_]; omega) | (simp; done) | (simp; omega))) (zL 3 (qlssF H98 i3 ((watOf M p).length : Int)))) ?_
  refine wFa ?_
  refine wX ?_
  refine Eq.mpr (if_pos rfl) ?_
  obtain ⟨_, H102, hr103, c100, rfl, hs104⟩ := all_c (A := an) rfl rfl _ ((hideH [n1] H98) : HH) tt l mo L M (On.call [3, 4, 5] [0, 1, 2, 6, 7] (by kernel_rfl) (On.hide1 hs99 1 rfl)) hI.ok
  have hs104 : On [R, pts n1 (.map (.fro [vb true, sv TT5 rb rn rp D])), pts n2 (.obj [vi p.1, vi p.2.1]), pts k49 (rowO PD true 0 Z2), pts k85 (rowO TT5 true 0 Z3), pts tt (.obj [.mp l, .mp mo]), pts l (lnkO L), pts mo (monO M), ownP TT5 c100 (allOf L M)] H102 := On.flat hs104
  have hk101 : ((allOf L M).length : Int) = (L.length : Int) + (M.length : Int) := allLen _ _
  obtain ⟨fb105, fn106, fp107, hf108⟩ := own_snap (On.back1 hs104 1 rfl (On.at hs99 1 rfl)) 8 rfl
  refine rSq [(3, .y (.one (c100)), (backH [n1] H98 H102)), (5, .y (.one (sv TT5 rb rn rp D)), (backH [n1] H98 H102)), (6, xb true, (backH [n1] H98 H102))] [(6, xb true)] (backH [n1] H98 H102)
    (cast (Jai (ob_out (M := [n1]) (H := H98) (H' := H102) (H2 := (backH [n1] H98 H102)) (mayHide1 (On.at hs99 1 rfl) rfl) (Jl hr103 (by kernel_rfl)) rfl) (Jai (ob_ins (H := (backH [n1] H98 H102)) (Je (t := 35) (off := 1) (v := .one (sv TT5 rb rn rp D)) (onlyH_at (M := [n1]) (by simp) (On.at (On.back1 hs104 1 rfl (On.at hs99 1 rfl)) 1 rfl)) (by kernel_rfl))) (JZ (Ji (H := (backH [n1] H98 H102)) (g := 20) (vals := [.y (.one (c100)), .y (.one (sv TT5 rb rn rp D))]) (xs0 := [.one (c100), .one (sv TT5 rb rn rp D)]) (xs1 := [.one (sv TT5 fb105 fn106 fp107 (allOf L M)), .one (sv TT5 rb rn rp D)]) (res := [.one (vb true)]) (ats := #[]) (ty := 0) (v := xb true) [.tmp 0, .tmp 1] (by kernel_rfl) (by kernel_rfl) (snap_cons (snap_one hf108) (snap_cons (by kernel_rfl) (snap_nil))) (by have h9 := same_ok fb105 fn106 fp107 rb rn rp (allOf L M) D (by first | rfl | omega | (simp only [ek_]; omega) | (simp; done) | (simp; omega)) (by first | rfl | omega | (simp only [ek_]; omega) | (simp; done) | (simp; omega)); rw [hs1] at h9; exact h9) (by kernel_rfl))))) (by kernel_rfl)) (by kernel_rfl) ?_
  refine wG (On.back1 hs104 1 rfl (On.at hs99 1 rfl)) fun H109 hs110 => ?_
  refine wE ?_
  refine ⟨Or.inr rfl, [.one (vb true)], (by kernel_rfl), ?_⟩
  exact ⟨rfl, (On.pick [0, 5, 6, 7] [1, 2, 3, 4, 8] (by kernel_rfl) hs110)⟩
 refine Wp.loop (T := HH × Int × List TT5.T) (fun t => match t with | (H112, i1, Z1) => ((((allOf L M).length : Int) - i1).toNat : Nat)) (fun t => match t with | (H112, i1, Z1) => ([(0, yp tt), (4, yp n1), (7, .y (.one (rowC k45 0 Z1.length 0 ((allOf L M).length) false))), (8, .y (.one (c10))), (9, .y (.one (c15))), (10, xb true), (11, xi i1)] : Env)) (fun t => match t with | (H112, i1, Z1) => (H112 : HH))
   (fun t => match t with | (H112, i1, Z1) => (On [R, pts n1 (.obj [vb true, sv TT5 rb rn rp D]), pts n2 (.obj [vi p.1, vi p.2.1]), ownP PD c10 (isort ltD (lnkOf L p)), pts tt (.obj [.mp l, .mp mo]), pts l (lnkO L), pts mo (monO M), ownP TT5 c15 (watOf M p), pts k45 (rowO TT5 true 0 Z1)] H112 ∧ (0 ≤ i1) ∧ (i1 ≤ ((allOf L M).length : Int)) ∧ ((Z1.length : Int) = (allOf L M).length) : Prop)) (H20, 0, (allOf L M)) (by kernel_rfl) (⟨(On.pick [0, 1, 2, 3, 4, 5, 6, 7, 8] [] (by kernel_rfl) hs43), by omega, by omega, rfl⟩) ?_
 rintro ⟨H112, i1, Z1⟩ ⟨hs113, hi11, hi12, hi13⟩
 show Wp _ _ _ _ [(0, yp tt), (4, yp n1), (7, .y (.one (rowC k45 0 Z1.length 0 ((allOf L M).length) false))), (8, .y (.one (c10))), (9, .y (.one (c15))), (10, xb true), (11, xi i1)] H112 _
 refine wS ?_
 rcases ilt (i1) (((allOf L M).length : Int)) with c114 | c114
 ·
  refine rSz [(0, yp tt), (4, yp n1), (7, .y (.one (rowC k45 0 Z1.length 0 ((allOf L M).length) false))), (8, .y (.one (c10))), (9, .y (.one (c15))), (10, xb true), (11, xi i1), (43, xb true)] H112 (zA 2 (Jf (H := H112) (s := TT5) (t := 35) (ty := 0) (pu := true) (capd := false) (id := k45) (d := 0) (o := 0) (n := ((allOf L M).length)) (l := Z1) (e := ((allOf L M).length : Int)) (On.at hs113 8 rfl) (by kernel_rfl) (by first | rfl | omega | (simp only [ek_]; omega) | (simp; done) | (simp; omega))) (zL 3 (qlssT H112 i1 ((allOf L M).length : Int)))) ?_
  refine wTk ?_
  refine wS (wB ?_)
  obtain ⟨x115, hx115⟩ : ∃ x : TT5.T, ((Z1.drop 0).take (allOf L M).length)[(i1 : Int).toNat]? = some x := get_of (by first | rfl | omega | (simp only [ek_]; omega) | (simp; done) | (simp; omega))
  refine rKz [(0, yp tt), (4, yp n1), (7, .y (.one (rowC k45 0 Z1.length 0 ((allOf L M).length) false))), (8, .y (.one (c10))), (9, .y (.one (c15))), (10, xb true), (11, xi i1)] (sto H112 k45 (.row true true 0 (0 + Z1.length) 5 ((Z1.set ((i1 : Int).toNat) ((-9), ((0, (0, ())), ((0, (0, ())), ())))).flatMap (enc TT5)))) (zA 3 (Jj (H := H112) (s := TT5) (t := 35) (el := 41) (ty := 0) (pu := true) (capd := false) (id := k45) (d := 0) (o := 0) (n := ((allOf L M).length)) (j := ((i1 : Int).toNat)) (l := Z1) (i := i1) (On.at hs113 8 rfl) Try.underlying35 (by kernel_rfl) (by omega) (by first | rfl | omega | (simp only [ek_]; omega) | (simp; done) | (simp; omega)) (by first | rfl | omega | (simp only [ek_]; omega) | (simp; done) | (simp; omega)) (by first | rfl | omega | (simp only [ek_]; omega) | (simp; done) | (simp; omega))) (zL 4 (Jm (H := H112) (s := TT5) (t := 41) (ty := 0) (pu := true) (id := k45) (d := 0) (j := ((i1 : Int).toNat)) (o := 0) (l := Z1) (x := x115) (x' := ((-9), ((0, (0, ())), ((0, (0, ())), ())))) (v := .agg [vi (-9), vi 0, vi 0, vi 0, vi 0]) (On.at hs113 8 rfl) (by kernel_rfl) (of_content (L := Z1) (o := 0) (n := ((allOf L M).length)) (rfl) hx115 (by first | rfl | omega | (simp only [ek_]; omega) | (simp; done) | (simp; omega))) (by kernel_rfl) (by kernel_rfl) (by kernel_rfl) (by kernel_rfl)))) ?_
  have hrl117 : Z1.length = (Z1.set ((i1 : Int).toNat) ((-9), ((0, (0, ())), ((0, (0, ())), ())))).length := List.length_set.symm
  refine Eq.mpr (congrArg (fun z : Nat => Wp _ _ _ _ [(0, yp tt), (4, yp n1), (7, .y (.one (rowC k45 0 z 0 ((allOf L M).length) false))), (8, .y (.one (c10))), (9, .y (.one (c15))), (10, xb true), (11, xi i1)] (sto H112 k45 (.row true true 0 (0 + z) 5 ((Z1.set ((i1 : Int).toNat) ((-9), ((0, (0, ())), ((0, (0, ())), ())))).flatMap (enc TT5)))) _) hrl117) ?_
  refine wG (Eq.mp (congrArg (fun z : Nat => On [R, pts n1 (.obj [vb true, sv TT5 rb rn rp D]), pts n2 (.obj [vi p.1, vi p.2.1]), ownP PD c10 (isort ltD (lnkOf L p)), pts tt (.obj [.mp l, .mp mo]), pts l (lnkO L), pts mo (monO M), ownP TT5 c15 (watOf M p), pts k45 (.row true true 0 (0 + z) 5 ((Z1.set ((i1 : Int).toNat) ((-9), ((0, (0, ())), ((0, (0, ())), ())))).flatMap (enc TT5)))] (sto H112 k45 (.row true true 0 (0 + z) 5 ((Z1.set ((i1 : Int).toNat) ((-9), ((0, (0, ())), ((0, (0, ())), ())))).flatMap (enc TT5))))) hrl117) (On.put (.row true true 0 (0 + Z1.length) 5 ((Z1.set ((i1 : Int).toNat) ((-9), ((0, (0, ())), ((0, (0, ())), ())))).flatMap (enc TT5))) hs113 8 rfl)) fun H118 hs119 => ?_
  refine wK ?_
  refine rRz [(0, yp tt), (4, yp n1), (7, .y (.one (rowC k45 0 (Z1.set ((i1 : Int).toNat) ((-9), ((0, (0, ())), ((0, (0, ())), ())))).length 0 ((allOf L M).length) false))), (8, .y (.one (c10))), (9, .y (.one (c15))), (10, xb true), (11, xi (i1 + 1))] H118 (zL 1 (qoAdd H118 i1 1 (i1 + 1))) ?_
  exact ⟨(H118, (i1 + 1), (Z1.set ((i1 : Int).toNat) ((-9), ((0, (0, ())), ((0, (0, ())), ()))))), by kernel_rfl, (⟨(On.pick [0, 1, 2, 3, 4, 5, 6, 7, 8] [] (by kernel_rfl) hs119), by omega, by omega, (by rw [List.length_set]; omega)⟩), (by show (_ : Nat) < _; simp only []; omega)⟩
 refine rSz [(0, yp tt), (4, yp n1), (7, .y (.one (rowC k45 0 Z1.length 0 ((allOf L M).length) false))), (8, .y (.one (c10))), (9, .y (.one (c15))), (10, xb true), (11, xi i1), (43, xb false)] H112 (zA 2 (Jf (H := H112) (s := TT5) (t := 35) (ty := 0) (pu := true) (capd := false) (id := k45) (d := 0) (o := 0) (n := ((allOf L M).length)) (l := Z1) (e := ((allOf L M).length : Int)) (On.at hs113 8 rfl) (by kernel_rfl) (by first | rfl | omega | (simp only [ek_]; omega) | (simp; done) | (simp; omega))) (zL 3 (qlssF H112 i1 ((allOf L M).length : Int)))) ?_
 refine wFa ?_
 refine wX ?_
 refine Eq.mpr (if_pos rfl) ?_
 refine wS ?_
 refine rs0 [(0, yp tt), (4, yp n1), (8, .y (.one (c10))), (9, .y (.one (c15))), (10, xb true), (12, xi 0)] ?_
 refine wB ?_
 obtain ⟨rfl, hl122, hs120⟩ | ⟨k123, rfl, k123z, hs121⟩ := own_open hs113 3 rfl
 ·
  have hl122n : ((isort ltD (lnkOf L p)).length : Int) = 0 := by rw [hl122]; rfl
  refine Wp.loopU [(0, yp tt), (4, yp n1), (8, .y (.one (nilC))), (9, .y (.one (c15))), (10, xb true), (12, xi 0)] (some ([0, 4, 8, 9, 10, 12], false)) (List.length H112) (by kernel_rfl) ?_
  refine WpL.step ?_
  refine wS ?_
  refine rs0 [(0, yp tt), (4, yp n1), (8, .y (.one (nilC))), (9, .y (.one (c15))), (10, xb true), (12, xi 0), (53, xb false)] ?_
  refine wFa ?_
  refine wX ?_
  refine Eq.mpr (if_pos rfl) ?_
  refine wS ?_
  refine rs0 [(0, yp tt), (4, yp n1), (9, .y (.one (c15))), (10, xb true), (13, xi 0)] ?_
  refine wB ?_
  obtain ⟨rfl, hl126, hs124⟩ | ⟨k127, rfl, k127z, hs125⟩ := own_open hs120 6 rfl
  ·
   have hl126n : ((watOf M p).length : Int) = 0 := by rw [hl126]; rfl
   refine Wp.loopU [(0, yp tt), (4, yp n1), (9, .y (.one (nilC))), (10, xb true), (13, xi 0)] (some ([0, 4, 9, 10, 13], false)) (List.length H112) (by kernel_rfl) ?_
   refine WpL.step ?_
   refine wS ?_
   refine rs0 [(0, yp tt), (4, yp n1), (9, .y (.one (nilC))), (10, xb true), (13, xi 0), (63, xb false)] ?_
   refine wFa ?_
   refine wX ?_
   refine Eq.mpr (if_pos rfl) ?_
   obtain ⟨_, H130, hr131, c128, rfl, hs132⟩ := all_c (A := an) rfl rfl _ ((hideH [n1] H112) : HH) tt l mo L M (On.call [3, 4, 5] [0, 1, 2, 6] (by kernel_rfl) (On.hide1 hs124 1 rfl)) hI.ok
   have hs132 : On [R, pts n1 (.map (.fro [vb true, sv TT5 rb rn rp D])), pts n2 (.obj [vi p.1, vi p.2.1]), pts k45 (rowO TT5 true 0 Z1), pts tt (.obj [.mp l, .mp mo]), pts l (lnkO L), pts mo (monO M), ownP TT5 c128 (allOf L M)] H130 := On.flat hs132
   have hk129 : ((allOf L M).length : Int) = (L.length : Int) + (M.length : Int) := allLen _ _
   obtain ⟨fb133, fn134, fp135, hf136⟩ := own_snap (On.back1 hs132 1 rfl (On.at hs124 1 rfl)) 7 rfl
   refine rSq [(3, .y (.one (c128)), (backH [n1] H112 H130)), (5, .y (.one (sv TT5 rb rn rp D)), (backH [n1] H112 H130)), (6, xb true, (backH [n1] H112 H130))] [(6, xb true)] (backH [n1] H112 H130)
     (cast (Jai (ob_out (M := [n1]) (H := H112) (H' := H130) (H2 := (backH [n1] H112 H130)) (mayHide1 (On.at hs124 1 rfl) rfl) (Jl hr131 (by kernel_rfl)) rfl) (Jai (ob_ins (H := (backH [n1] H112 H130)) (Je (t := 35) (off := 1) (v := .one (sv TT5 rb rn rp D)) (onlyH_at (M := [n1]) (by simp) (On.at (On.back1 hs132 1 rfl (On.at hs124 1 rfl)) 1 rfl)) (by kernel_rfl))) (JZ (Ji (H := (backH [n1] H112 H130)) (g := 20) (vals := [.y (.one (c128)), .y (.one (sv TT5 rb rn rp D))]) (xs0 := [.one (c128), .one (sv TT5 rb rn rp D)]) (xs1 := [.one (sv TT5 fb133 fn134 fp135 (allOf L M)), .one (sv TT5 rb rn rp D)]) (res := [.one (vb true)]) (ats := #[]) (ty := 0) (v := xb true) [.tmp 0, .tmp 1] (by kernel_rfl) (by kernel_rfl) (snap_cons (snap_one hf136) (snap_cons (by kernel_rfl) (snap_nil))) (by have h9 := same_ok fb133 fn134 fp135 rb rn rp (allOf L M) D (by first | rfl | omega | (simp only [ek_]; omega) | (simp; done) | (simp; omega)) (by first | rfl | omega | (simp only [ek_]; omega) | (simp; done) | (simp; omega)); rw [hs1] at h9; exact h9) (by kernel_rfl))))) (by kernel_rfl)) (by kernel_rfl) ?_
   refine wG (On.back1 hs132 1 rfl (On.at hs124 1 rfl)) fun H137 hs138 => ?_
   refine wE ?_
   refine ⟨Or.inr rfl, [.one (vb true)], (by kernel_rfl), ?_⟩
   exact ⟨rfl, (On.pick [0, 4, 5, 6] [1, 2, 3, 7] (by kernel_rfl) hs138)⟩
  refine Wp.loop (T := HH × Int × List TT5.T) (fun t => match t with | (H140, i3, Z3) => ((((watOf M p).length : Int) - i3).toNat : Nat)) (fun t => match t with | (H140, i3, Z3) => ([(0, yp tt), (4, yp n1), (9, .y (.one (rowC k127 0 Z3.length 0 ((watOf M p).length) false))), (10, xb true), (13, xi i3)] : Env)) (fun t => match t with | (H140, i3, Z3) => (H140 : HH))
    (fun t => match t with | (H140, i3, Z3) => (On [R, pts n1 (.obj [vb true, sv TT5 rb rn rp D]), pts n2 (.obj [vi p.1, vi p.2.1]), pts tt (.obj [.mp l, .mp mo]), pts l (lnkO L), pts mo (monO M), pts k45 (rowO TT5 true 0 Z1), pts k127 (rowO TT5 true 0 Z3)] H140 ∧ (0 ≤ i3) ∧ (i3 ≤ ((watOf M p).length : Int)) ∧ ((Z3.length : Int) = (watOf M p).length) : Prop)) (H112, 0, (watOf M p)) (by kernel_rfl) (⟨(On.pick [0, 1, 2, 3, 4, 5, 6, 7] [] (by kernel_rfl) hs125), by omega, by omega, rfl⟩) ?_
  rintro ⟨H140, i3, Z3⟩ ⟨hs141, hi31, hi32, hi33⟩
  show Wp _ _ _ _ [(0, yp tt), (4, yp n1), (9, .y (.one (rowC k127 0 Z3.length 0 ((watOf M p).length) false))), (10, xb true), (13, xi i3)] H140 _
  refine wS ?_
  rcases ilt (i3) (((watOf M p).length : Int)) with c142 | c142
  ·
   refine rSz [(0, yp tt), (4, yp n1), (9, .y (.one (rowC k127 0 Z3.length 0 ((watOf M p).length) false))), (10, xb true), (13, xi i3), (63, xb true)] H140 (zA 2 (Jf (H := H140) (s := TT5) (t := 35) (ty := 0) (pu := true) (capd := false) (id := k127) (d := 0) (o := 0) (n := ((watOf M p).length)) (l := Z3) (e := ((watOf M p).length : Int)) (On.at hs141 7 rfl) (by kernel_rfl) (by first | rfl | omega | (simp only [ek_]; omega) | (simp; done) | (simp; omega))) (zL 3 (qlssT H140 i3 ((watOf M p).length : Int)))) ?_
   refine wTk ?_
   refine wS (wB ?_)
   obtain ⟨x143, hx143⟩ : ∃ x : TT5.T, ((Z3.drop 0).take (watOf M p).length)[(i3 : Int).toNat]? = some x := get_of (by first | rfl | omega | (simp only [ek_]; omega) | (simp; done) | (simp; omega))
   refine rKz [(0, yp tt), (4, yp n1), (9, .y (.one (rowC k127 0 Z3.length 0 ((watOf M p).length) false))), (10, xb true), (13, xi i3)] (sto H140 k127 (.row true true 0 (0 + Z3.length) 5 ((Z3.set ((i3 : Int).toNat) ((-8), ((0, (0, ())), ((0, (0, ())), ())))).flatMap (enc TT5)))) (zA 3 (Jj (H := H140) (s := TT5) (t := 35) (el := 41) (ty := 0) (pu := true) (capd := false) (id := k127) (d := 0) (o := 0) (n := ((watOf M p).length)) (j := ((i3 : Int).toNat)) (l := Z3) (i := i3) (On.at hs141 7 rfl) Try.underlying35 (by kernel_rfl) (by omega) (by first | rfl | omega | (simp only [ek_]; omega) | (simp; done) | (simp; omega)) (by first | rfl | omega | (simp only [ek_]; omega) | (simp; done) | (simp; omega)) (by first | rfl | omega | (simp only [ek_]; omega) | (simp; done) | (simp; omega))) (zL 4 (Jm (H := H140) (s := TT5) (t := 41) (ty := 0) (pu := true) (id := k127) (d := 0) (j := ((i3 : Int).toNat)) (o := 0) (l := Z3) (x := x143) (x' := ((-8), ((0, (0, ())), ((0, (0, ())), ())))) (v := .agg [vi (-8), vi 0, vi 0, vi 0, vi 0]) (On.at hs141 7 rfl) (by kernel_rfl) (of_content (L := Z3) (o := 0) (n := ((watOf M p).length)) (rfl) hx143 (by first | rfl | omega | (simp only [ek_]; omega) | (simp; done) | (simp; omega))) (by kernel_rfl) (by kernel_rfl) (by kernel_rfl) (by kernel_rfl)))) ?_
   have hrl145 : Z3.length = (Z3.set ((i3 : Int).toNat) ((-8), ((0, (0, ())), ((0, (0, ())), ())))).length := List.length_set.symm
   refine Eq.mpr (congrArg (fun z : Nat => Wp _ _ _ _ [(0, yp tt), (4, yp n1), (9, .y (.one (rowC k127 0 z 0 ((watOf M p).length) false))), (10, xb true), (13, xi i3)] (sto H140 k127 (.row true true 0 (0 + z) 5 ((Z3.set ((i3 : Int).toNat) ((-8), ((0, (0, ())), ((0, (0, ())), ())))).flatMap (enc TT5)))) _) hrl145) ?_
   refine wG (Eq.mp (congrArg (fun z : Nat => On [R, pts n1 (.obj [vb true, sv TT5 rb rn rp D]), pts n2 (.obj [vi p.1, vi p.2.1]), pts tt (.obj [.mp l, .mp mo]), pts l (lnkO L), pts mo (monO M), pts k45 (rowO TT5 true 0 Z1), pts k127 (.row true true 0 (0 + z) 5 ((Z3.set ((i3 : Int).toNat) ((-8), ((0, (0, ())), ((0, (0, ())), ())))).flatMap (enc TT5)))] (sto H140 k127 (.row true true 0 (0 + z) 5 ((Z3.set ((i3 : Int).toNat) ((-8), ((0, (0, ())), ((0, (0, ())), ())))).flatMap (enc TT5))))) hrl145) (On.put (.row true true 0 (0 + Z3.length) 5 ((Z3.set ((i3 : Int).toNat) ((-8), ((0, (0, ())), ((0, (0, ())), ())))).flatMap (enc TT5))) hs141 7 rfl)) fun H146 hs147 => ?_
   refine wK ?_
   refine rRz [(0, yp tt), (4, yp n1), (9, .y (.one (rowC k127 0 (Z3.set ((i3 : Int).toNat) ((-8), ((0, (0, ())), ((0, (0, ())), ())))).length 0 ((watOf M p).length) false))), (10, xb true), (13, xi (i3 + 1))] H146 (zL 1 (qoAdd H146 i3 1 (i3 + 1))) ?_
   exact ⟨(H146, (i3 + 1), (Z3.set ((i3 : Int).toNat) ((-8), ((0, (0, ())), ((0, (0, ())), ()))))), by kernel_rfl, (⟨(On.pick [0, 1, 2, 3, 4, 5, 6, 7] [] (by kernel_rfl) hs147), by omega, by omega, (by rw [List.length_set]; omega)⟩), (by show (_ : Nat) < _; simp only []; omega)⟩
  refine rSz [(0, yp tt), (4, yp n1), (9, .y (.one (rowC k127 0 Z3.length 0 ((watOf M p).length) false))), (10, xb true), (13, xi i3), (63, xb false)] H140 (zA 2 (Jf (H := H140) (s := TT5) (t := 35) (ty := 0) (pu := true) (capd := false) (id := k127) (d := 0) (o := 0) (n := ((watOf M p).length)) (l := Z3) (e := ((watOf M p).length : Int)) (On.at hs141 7 rfl) (by kernel_rfl) (by first | rfl | omega | (simp only [ek_]; omega) | (simp; done) | (simp; omega))) (zL 3 (qlssF H140 i3 ((watOf M p).length : Int)))) ?_
  refine wFa ?_
  refine wX ?_
  refine Eq.mpr (if_pos rfl) ?_
  obtain ⟨_, H150, hr151, c148, rfl, hs152⟩ := all_c (A := an) rfl rfl _ ((hideH [n1] H140) : HH) tt l mo L M (On.call [3, 4, 5] [0, 1, 2, 6, 7] (by kernel_rfl) (On.hide1 hs141 1 rfl)) hI.ok
  have hs152 : On [R, pts n1 (.map (.fro [vb true, sv TT5 rb rn rp D])), pts n2 (.obj [vi p.1, vi p.2.1]), pts k45 (rowO TT5 true 0 Z1), pts k127 (rowO TT5 true 0 Z3), pts tt (.obj [.mp l, .mp mo]), pts l (lnkO L), pts mo (monO M), ownP TT5 c148 (allOf L M)] H150 := On.flat hs152
  have hk149 : ((allOf L M).length : Int) = (L.length : Int) + (M.length : Int) := allLen _ _
  obtain ⟨fb153, fn154, fp155, hf156⟩ := own_snap (On.back1 hs152 1 rfl (On.at hs141 1 rfl)) 8 rfl
  refine rSq [(3, .y (.one (c148)), (backH [n1] H140 H150)), (5, .y (.one (sv TT5 rb rn rp D)), (backH [n1] H140 H150)), (6, xb true, (backH [n1] H140 H150))] [(6, xb true)] (backH [n1] H140 H150)
    (cast (Jai (ob_out (M := [n1]) (H := H140) (H' := H150) (H2 := (backH [n1] H140 H150)) (mayHide1 (On.at hs141 1 rfl) rfl) (Jl hr151 (by kernel_rfl)) rfl) (Jai (ob_ins (H := (backH [n1] H140 H150)) (Je (t := 35) (off := 1) (v := .one (sv TT5 rb rn rp D)) (onlyH_at (M := [n1]) (by simp) (On.at (On.back1 hs152 1 rfl (On.at hs141 1 rfl)) 1 rfl)) (by kernel_rfl))) (JZ (Ji (H := (backH [n1] H140 H150)) (g := 20) (vals := [.y (.one (c148)), .y (.one (sv TT5 rb rn rp D))]) (xs0 := [.one (c148), .one (sv TT5 rb rn rp D)]) (xs1 := [.one (sv TT5 fb153 fn154 fp155 (allOf L M)), .one (sv TT5 rb rn rp D)]) (res := [.one (vb true)]) (ats := #[]) (ty := 0) (v := xb true) [.tmp 0, .tmp 1] (by kernel_rfl) (by kernel_rfl) (snap_cons (snap_one hf156) (snap_cons (by kernel_rfl) (snap_nil))) (by have h9 := same_ok fb153 fn154 fp155 rb rn rp (allOf L M) D (by first | rfl | omega | (simp only [ek_]; omega) | (simp; done) | (simp; omega)) (by first | rfl | omega | (simp only [ek_]; omega) | (simp; done) | (simp; omega)); rw [hs1] at h9; exact h9) (by kernel_rfl))))) (by kernel_rfl)) (by kernel_rfl) ?_
  refine wG (On.back1 hs152 1 rfl (On.at hs141 1 rfl)) fun H157 hs158 => ?_
  refine wE ?_
  refine ⟨Or.inr rfl, [.one (vb true)], (by kernel_rfl), ?_⟩
  exact ⟨rfl, (On.pick [0, 5, 6, 7] [1, 2, 3, 4, 8] (by kernel_rfl) hs158)⟩
 refine Wp.loop (T := HH × Int × List PD.T) (fun t => match t with | (H160, i2, Z2) => ((((isort ltD (lnkOf L p)).length : Int) - i2).toNat : Nat)) (fun t => match t with | (H160, i2, Z2) => ([(0, yp tt), (4, yp n1), (8, .y (.one (rowC k123 0 Z2.length 0 ((isort ltD (lnkOf L p)).length) false))), (9, .y (.one (c15))), (10, xb true), (12, xi i2)] : Env)) (fun t => match t with | (H160, i2, Z2) => (H160 : HH))
   (fun t => match t with | (H160, i2, Z2) => (On [R, pts n1 (.obj [vb true, sv TT5 rb rn rp D]), pts n2 (.obj [vi p.1, vi p.2.1]), pts tt (.obj [.mp l, .mp mo]), pts l (lnkO L), pts mo (monO M), ownP TT5 c15 (watOf M p), pts k45 (rowO TT5 true 0 Z1), pts k123 (rowO PD true 0 Z2)] H160 ∧ (0 ≤ i2) ∧ (i2 ≤ ((isort ltD (lnkOf L p)).length : Int)) ∧ ((Z2.length : Int) = (isort ltD (lnkOf L p)).length) : Prop)) (H112, 0, (isort ltD (lnkOf L p))) (by kernel_rfl) (⟨(On.pick [0, 1, 2, 3, 4, 5, 6, 7, 8] [] (by kernel_rfl) hs121), by omega, by omega, rfl⟩) ?_
 rintro ⟨H160, i2, Z2⟩ ⟨hs161, hi21, hi22, hi23⟩
 show Wp _ _ _ _ [(0, yp tt), (4, yp n1), (8, .y (.one (rowC k123 0 Z2.length 0 ((isort ltD (lnkOf L p)).length) false))), (9, .y (.one (c15))), (10, xb true), (12, xi i2)] H160 _
 refine wS ?_
 rcases ilt (i2) (((isort ltD (lnkOf L p)).length : Int)) with c162 | c162
 ·
  refine rSz [(0, yp tt), (4, yp n1), (8, .y (.one (rowC k123 0 Z2.length 0 ((isort ltD (lnkOf L p)).length) false))), (9, .y (.one (c15))), (10, xb true), (12, xi i2), (53, xb true)] H160 (zA 2 (Jf (H := H160) (s := PD) (t := 32) (ty := 0) (pu := true) (capd := false) (id := k123) (d := 0) (o := 0) (n := ((isort ltD (lnkOf L p)).length)) (l := Z2) (e := ((isort ltD (lnkOf L p)).length : Int)) (On.at hs161 8 rfl) (by kernel_rfl) (by first | rfl | omega | (simp only [ek_]; omega) | (simp; done) | (simp; omega))) (zL 3 (qlssT H160 i2 ((isort ltD (lnkOf L p)).length : Int)))) ?_
  refine wTk ?_
  refine wS (wB ?_)
  obtain ⟨x163, hx163⟩ : ∃ x : PD.T, ((Z2.drop 0).take (isort ltD (lnkOf L p)).length)[(i2 : Int).toNat]? = some x := get_of (by first | rfl | omega | (simp only [ek_]; omega) | (simp; done) | (simp; omega))
  refine rKz [(0, yp tt), (4, yp n1), (8, .y (.one (rowC k123 0 Z2.length 0 ((isort ltD (lnkOf L p)).length) false))), (9, .y (.one (c15))), (10, xb true), (12, xi i2)] (sto H160 k123 (.row true true 0 (0 + Z2.length) 2 ((Z2.set ((i2 : Int).toNat) ((-9), (0, ()))).flatMap (enc PD)))) (zA 3 (Jj (H := H160) (s := PD) (t := 32) (el := 24) (ty := 0) (pu := true) (capd := false) (id := k123) (d := 0) (o := 0) (n := ((isort ltD (lnkOf L p)).length)) (j := ((i2 : Int).toNat)) (l := Z2) (i := i2) (On.at hs161 8 rfl) Try.underlying32 (by kernel_rfl) (by omega) (by first | rfl | omega | (simp only [ek_]; omega) | (simp; done) | (simp; omega)) (by first | rfl | omega | (simp only [ek_]; omega) | (simp; done) | (simp; omega)) (by first | rfl | omega | (simp only [ek_]; omega) | (simp; done) | (simp; omega))) (zL 4 (Jm (H := H160) (s := PD) (t := 24) (ty := 0) (pu := true) (id := k123) (d := 0) (j := ((i2 : Int).toNat)) (o := 0) (l := Z2) (x := x163) (x' := ((-9), (0, ()))) (v := .agg [vi (-9), vi 0]) (On.at hs161 8 rfl) (by kernel_rfl) (of_content (L := Z2) (o := 0) (n := ((isort ltD (lnkOf L p)).length)) (rfl) hx163 (by first | rfl | omega | (simp only [ek_]; omega) | (simp; done) | (simp; omega))) (by kernel_rfl) (by kernel_rfl) (by kernel_rfl) (by kernel_rfl)))) ?_
  have hrl165 : Z2.length = (Z2.set ((i2 : Int).toNat) ((-9), (0, ()))).length := List.length_set.symm
  refine Eq.mpr (congrArg (fun z : Nat => Wp _ _ _ _ [(0, yp tt), (4, yp n1), (8, .y (.one (rowC k123 0 z 0 ((isort ltD (lnkOf L p)).length) false))), (9, .y (.one (c15))), (10, xb true), (12, xi i2)] (sto H160 k123 (.row true true 0 (0 + z) 2 ((Z2.set ((i2 : Int).toNat) ((-9), (0, ()))).flatMap (enc PD)))) _) hrl165) ?_
  refine wG (Eq.mp (congrArg (fun z : Nat => On [R, pts n1 (.obj [vb true, sv TT5 rb rn rp D]), pts n2 (.obj [vi p.1, vi p.2.1]), pts tt (.obj [.mp l, .mp mo]), pts l (lnkO L), pts mo (monO M), ownP TT5 c15 (watOf M p), pts k45 (rowO TT5 true 0 Z1), pts k123 (.row true true 0 (0 + z) 2 ((Z2.set ((i2 : Int).toNat) ((-9), (0, ()))).flatMap (enc PD)))] (sto H160 k123 (.row true true 0 (0 + z) 2 ((Z2.set ((i2 : Int).toNat) ((-9), (0, ()))).flatMap (enc PD))))) hrl165) (On.put (.row true true 0 (0 + Z2.length) 2 ((Z2.set ((i2 : Int).toNat) ((-9), (0, ()))).flatMap (enc PD))) hs161 8 rfl)) fun H166 hs167 => ?_
  refine wK ?_
  refine rRz [(0, yp tt), (4, yp n1), (8, .y (.one (rowC k123 0 (Z2.set ((i2 : Int).toNat) ((-9), (0, ()))).length 0 ((isort ltD (lnkOf L p)).length) false))), (9, .y (.one (c15))), (10, xb true), (12, xi (i2 + 1))] H166 (zL 1 (qoAdd H166 i2 1 (i2 + 1))) ?_
  exact ⟨(H166, (i2 + 1), (Z2.set ((i2 : Int).toNat) ((-9), (0, ())))), by kernel_rfl, (⟨(On.pick [0, 1, 2, 3, 4, 5, 6, 7, 8] [] (by kernel_rfl) hs167), by omega, by omega, (by rw [List.length_set]; omega)⟩), (by show (_ : Nat) < _; simp only []; omega)⟩
 refine rSz [(0, yp tt), (4, yp n1), (8, .y (.one (rowC k123 0 Z2.length 0 ((isort ltD (lnkOf L p)).length) false))), (9, .y (.one (c15))), (10, xb true), (12, xi i2), (53, xb false)] H160 (zA 2 (Jf (H := H160) (s := PD) (t := 32) (ty := 0) (pu := true) (capd := false) (id := k123) (d := 0) (o := 0) (n := ((isort ltD (lnkOf L p)).length)) (l := Z2) (e := ((isort ltD (lnkOf L p)).length : Int)) (On.at hs161 8 rfl) (by kernel_rfl) (by first | rfl | omega | (simp only [ek_]; omega) | (simp; done) | (simp; omega))) (zL 3 (qlssF H160 i2 ((isort ltD (lnkOf L p)).length : Int)))) ?_
 refine wFa ?_
 refine wX ?_
 refine Eq.mpr (if_pos rfl) ?_
 refine wS ?_
 refine rs0 [(0, yp tt), (4, yp n1), (9, .y (.one (c15))), (10, xb true), (13, xi 0)] ?_
 refine wB ?_
 obtain ⟨rfl, hl170, hs168⟩ | ⟨k171, rfl, k171z, hs169⟩ := own_open hs161 6 rfl
 ·
  have hl170n : ((watOf M p).length : Int) = 0 := by rw [hl170]; rfl
  refine Wp.loopU [(0, yp tt), (4, yp n1), (9, .y (.one (nilC))), (10, xb true), (13, xi 0)] (some ([0, 4, 9, 10, 13], false)) (List.length H160) (by kernel_rfl) ?_
  refine WpL.step ?_
  refine wS ?_
  refine rs0 [(0, yp tt), (4, yp n1), (9, .y (.one (nilC))), (10, xb true), (13, xi 0), (63, xb false)] ?_
  refine wFa ?_
  refine wX ?_
  refine Eq.mpr (if_pos rfl) ?_
  obtain ⟨_, H174, hr175, c172, rfl, hs176⟩ := all_c (A := an) rfl rfl _ ((hideH [n1] H160) : HH) tt l mo L M (On.call [3, 4, 5] [0, 1, 2, 6, 7] (by kernel_rfl) (On.hide1 hs168 1 rfl)) hI.ok
  have hs176 : On [R, pts n1 (.map (.fro [vb true, sv TT5 rb rn rp D])), pts n2 (.obj [vi p.1, vi p.2.1]), pts k45 (rowO TT5 true 0 Z1), pts k123 (rowO PD true 0 Z2), pts tt (.obj [.mp l, .mp mo]), pts l (lnkO L), pts mo (monO M), ownP TT5 c172 (allOf L M)] H174 := On.flat hs176
  have hk173 : ((allOf L M).length : Int) = (L.length : Int) + (M.length : Int) := allLen _ _
  obtain ⟨fb177, fn178, fp179, hf180⟩ := own_snap (On.back1 hs176 1 rfl (On.at hs168 1 rfl)) 8 rfl
  refine rSq [(3, .y (.one (c172)), (backH [n1] H160 H174)), (5, .y (.one (sv TT5 rb rn rp D)), (backH [n1] H160 H174)), (6, xb true, (backH [n1] H160 H174))] [(6, xb true)] (backH [n1] H160 H174)
    (cast (Jai (ob_out (M := [n1]) (H := H160) (H' := H174) (H2 := (backH [n1] H160 H174)) (mayHide1 (On.at hs168 1 rfl) rfl) (Jl hr175 (by kernel_rfl)) rfl) (Jai (ob_ins (H := (backH [n1] H160 H174)) (Je (t := 35) (off := 1) (v := .one (sv TT5 rb rn rp D)) (onlyH_at (M := [n1]) (by simp) (On.at (On.back1 hs176 1 rfl (On.at hs168 1 rfl)) 1 rfl)) (by kernel_rfl))) (JZ (Ji (H := (backH [n1] H160 H174)) (g := 20) (vals := [.y (.one (c172)), .y (.one (sv TT5 rb rn rp D))]) (xs0 := [.one (c172), .one (sv TT5 rb rn rp D)]) (xs1 := [.one (sv TT5 fb177 fn178 fp179 (allOf L M)), .one (sv TT5 rb rn rp D)]) (res := [.one (vb true)]) (ats := #[]) (ty := 0) (v := xb true) [.tmp 0, .tmp 1] (by kernel_rfl) (by kernel_rfl) (snap_cons (snap_one hf180) (snap_cons (by kernel_rfl) (snap_nil))) (by have h9 := same_ok fb177 fn178 fp179 rb rn rp (allOf L M) D (by first | rfl | omega | (simp only [ek_]; omega) | (simp; done) | (simp; omega)) (by first | rfl | omega | (simp only [ek_]; omega) | (simp; done) | (simp; omega)); rw [hs1] at h9; exact h9) (by kernel_rfl))))) (by kernel_rfl)) (by kernel_rfl) ?_
  refine wG (On.back1 hs176 1 rfl (On.at hs168 1 rfl)) fun H181 hs182 => ?_
  refine wE ?_
  refine ⟨Or.inr rfl, [.one (vb true)], (by kernel_rfl), ?_⟩
  exact ⟨rfl, (On.pick [0, 5, 6, 7] [1, 2, 3, 4, 8] (by kernel_rfl) hs182)⟩
 refine Wp.loop (T := HH × Int × List TT5.T) (fun t => match t with | (H184, i3, Z3) => ((((watOf M p).length : Int) - i3).toNat : Nat)) (fun t => match t with | (H184, i3, Z3) => ([(0, yp tt), (4, yp n1), (9, .y (.one (rowC k171 0 Z3.length 0 ((watOf M p).length) false))), (10, xb true), (13, xi i3)] : Env)) (fun t => match t with | (H184, i3, Z3) => (H184 : HH))
   (fun t => match t with | (H184, i3, Z3) => (On [R, pts n1 (.obj [vb true, sv TT5 rb rn rp D]), pts n2 (.obj [vi p.1, vi p.2.1]), pts tt (.obj [.mp l, .mp mo]), pts l (lnkO L), pts mo (monO M), pts k45 (rowO TT5 true 0 Z1), pts k123 (rowO PD true 0 Z2), pts k171 (rowO TT5 true 0 Z3)] H184 ∧ (0 ≤ i3) ∧ (i3 ≤ ((watOf M p).length : Int)) ∧ ((Z3.length : Int) = (watOf M p).length) : Prop)) (H160, 0, (watOf M p)) (by kernel_rfl) (⟨(On.pick [0, 1, 2, 3, 4, 5, 6, 7, 8] [] (by kernel_rfl) hs169), by omega, by omega, rfl⟩) ?_
 rintro ⟨H184, i3, Z3⟩ ⟨hs185, hi31, hi32, hi33⟩
 show Wp _ _ _ _ [(0, yp tt), (4, yp n1), (9, .y (.one (rowC k171 0 Z3.length 0 ((watOf M p).length) false))), (10, xb true), (13, xi i3)] H184 _
 refine wS ?_
 rcases ilt (i3) (((watOf M p).length : Int)) with c186 | c186
 ·
  refine rSz [(0, yp tt), (4, yp n1), (9, .y (.one (rowC k171 0 Z3.length 0 ((watOf M p).length) false))), (10, xb true), (13, xi i3), (63, xb true)] H184 (zA 2 (Jf (H := H184) (s := TT5) (t := 35) (ty := 0) (pu := true) (capd := false) (id := k171) (d := 0) (o := 0) (n := ((watOf M p).length)) (l := Z3) (e := ((watOf M p).length : Int)) (On.at hs185 8 rfl) (by kernel_rfl) (by first | rfl | omega | (simp only [ek_]; omega) | (simp; done) | (simp; omega))) (zL 3 (qlssT H184 i3 ((watOf M p).length : Int)))) ?_
  refine wTk ?_
  refine wS (wB ?_)
  obtain ⟨x187, hx187⟩ : ∃ x : TT5.T, ((Z3.drop 0).take (watOf M p).length)[(i3 : Int).toNat]? = some x := get_of (by first | rfl | omega | (simp only [ek_]; omega) | (simp; done) | (simp; omega))
  refine rKz [(0, yp tt), (4, yp n1), (9, .y (.one (rowC k171 0 Z3.length 0 ((watOf M p).length) false))), (10, xb true), (13, xi i3)] (sto H184 k171 (.row true true 0 (0 + Z3.length) 5 ((Z3.set ((i3 : Int).toNat) ((-8), ((0, (0, ())), ((0, (0, ())), ())))).flatMap (enc TT5)))) (zA 3 (Jj (H := H184) (s := TT5) (t := 35) (el := 41) (ty := 0) (pu := true) (capd := false) (id := k171) (d := 0) (o := 0) (n := ((watOf M p).length)) (j := ((i3 : Int).toNat)) (l := Z3) (i := i3) (On.at hs185 8 rfl) Try.underlying35 (by kernel_rfl) (by omega) (by first | rfl | omega | (simp only [ek_]; omega) | (simp; done) | (simp; omega)) (by first | rfl | omega | (simp only [ek_]; omega) | (simp; done) | (simp; omega)) (by first | rfl | omega | (simp only [ek_]; omega) | (simp; done) | (simp; omega))) (zL 4 (Jm (H := H184) (s := TT5) (t := 41) (ty := 0) (pu := true) (id := k171) (d := 0) (j := ((i3 : Int).toNat)) (o := 0) (l := Z3) (x := x187) (x' := ((-8), ((0, (0, ())), ((0, (0, ())), ())))) (v := .agg [vi (-8), vi 0, vi 0, vi 0, vi 0]) (On.at hs185 8 rfl) (by kernel_rfl) (of_content (L := Z3) (o := 0) (n := ((watOf M p).length)) (rfl) hx187 (by first | rfl | omega | (simp only [ek_]; omega) | (simp; done) | (simp; omega))) (by kernel_rfl) (by kernel_rfl) (by kernel_rfl) (by kernel_rfl)))) ?_
  have hrl189 : Z3.length = (Z3.set ((i3 : Int).toNat) ((-8), ((0, (0, ())), ((0, (0, ())), ())))).length := List.length_set.symm
  refine Eq.mpr (congrArg (fun z : Nat => Wp _ _ _ _ [(0, yp tt), (4, yp n1), (9, .y (.one (rowC k171 0 z 0 ((watOf M p).length) false))), (10, xb true), (13, xi i3)] (sto H184 k171 (.row true true 0 (0 + z) 5 ((Z3.set ((i3 : Int).toNat) ((-8), ((0, (0, ())), ((0, (0, ())), ())))).flatMap (enc TT5)))) _) hrl189) ?_
  refine wG (Eq.mp (congrArg (fun z : Nat => On [R, pts n1 (.obj [vb true, sv TT5 rb rn rp D]), pts n2 (.obj [vi p.1, vi p.2.1]), pts tt (.obj [.mp l, .mp mo]), pts l (lnkO L), pts mo (monO M), pts k45 (rowO TT5 true 0 Z1), pts k123 (rowO PD true 0 Z2), pts k171 (.row true true 0 (0 + z) 5 ((Z3.set ((i3 : Int).toNat) ((-8), ((0, (0, ())), ((0, (0, ())), ())))).flatMap (enc TT5)))] (sto H184 k171 (.row true true 0 (0 + z) 5 ((Z3.set ((i3 : Int).toNat) ((-8), ((0, (0, ())), ((0, (0, ())), ())))).flatMap (enc TT5))))) hrl189) (On.put (.row true true 0 (0 + Z3.length) 5 ((Z3.set ((i3 : Int).toNat) ((-8), ((0, (0, ())), ((0, (0, ())), ())))).flatMap (enc TT5))) hs185 8 rfl)) fun H190 hs191 => ?_
  refine wK ?_
  refine rRz [(0, yp tt), (4, yp n1), (9, .y (.one (rowC k171 0 (Z3.set ((i3 : Int).toNat) ((-8), ((0, (0, ())), ((0, (0, ())), ())))).length 0 ((watOf M p).length) false))), (10, xb true), (13, xi (i3 + 1))] H190 (zL 1 (qoAdd H190 i3 1 (i3 + 1))) ?_
  exact ⟨(H190, (i3 + 1), (Z3.set ((i3 : Int).toNat) ((-8), ((0, (0, ())), ((0, (0, ())), ()))))), by kernel_rfl, (⟨(On.pick [0, 1, 2, 3, 4, 5, 6, 7, 8] [] (by kernel_rfl) hs191), by omega, by omega, (by rw [List.length_set]; omega)⟩), (by show (_ : Nat) < _; simp only []; omega)⟩
 refine rSz [(0, yp tt), (4, yp n1), (9, .y (.one (rowC k171 0 Z3.length 0 ((watOf M p).length) false))), (10, xb true), (13, xi i3), (63, xb false)] H184 (zA 2 (Jf (H := H184) (s := TT5) (t := 35) (ty := 0) (pu := true) (capd := false) (id := k171) (d := 0) (o := 0) (n := ((watOf M p).length)) (l := Z3) (e := ((watOf M p).length : Int)) (On.at hs185 8 rfl) (by kernel_rfl) (by first | rfl | omega | (simp only [ek_]; omega) | (simp; done) | (simp; omega))) (zL 3 (qlssF H184 i3 ((watOf M p).length : Int)))) ?_
 refine wFa ?_
 refine wX ?_
 refine Eq.mpr (if_pos rfl) ?_
 obtain ⟨_, H194, hr195, c192, rfl, hs196⟩ := all_c (A := an) rfl rfl _ ((hideH [n1] H184) : HH) tt l mo L M (On.call [3, 4, 5] [0, 1, 2, 6, 7, 8] (by kernel_rfl) (On.hide1 hs185 1 rfl)) hI.ok
 have hs196 : On [R, pts n1 (.map (.fro [vb true, sv TT5 rb rn rp D])), pts n2 (.obj [vi p.1, vi p.2.1]), pts k45 (rowO TT5 true 0 Z1), pts k123 (rowO PD true 0 Z2), pts k171 (rowO TT5 true 0 Z3), pts tt (.obj [.mp l, .mp mo]), pts l (lnkO L), pts mo (monO M), ownP TT5 c192 (allOf L M)] H194 := On.flat hs196
 have hk193 : ((allOf L M).length : Int) = (L.length : Int) + (M.length : Int) := allLen _ _
 obtain ⟨fb197, fn198, fp199, hf200⟩ := own_snap (On.back1 hs196 1 rfl (On.at hs185 1 rfl)) 9 rfl
 refine rSq [(3, .y (.one (c192)), (backH [n1] H184 H194)), (5, .y (.one (sv TT5 rb rn rp D)), (backH [n1] H184 H194)), (6, xb true, (backH [n1] H184 H194))] [(6, xb true)] (backH [n1] H184 H194)
   (cast (Jai (ob_out (M := [n1]) (H := H184) (H' := H194) (H2 := (backH [n1] H184 H194)) (mayHide1 (On.at hs185 1 rfl) rfl) (Jl hr195 (by kernel_rfl)) rfl) (Jai (ob_ins (H := (backH [n1] H184 H194)) (Je (t := 35) (off := 1) (v := .one (sv TT5 rb rn rp D)) (onlyH_at (M := [n1]) (by simp) (On.at (On.back1 hs196 1 rfl (On.at hs185 1 rfl)) 1 rfl)) (by kernel_rfl))) (JZ (Ji (H := (backH [n1] H184 H194)) (g := 20) (vals := [.y (.one (c192)), .y (.one (sv TT5 rb rn rp D))]) (xs0 := [.one (c192), .one (sv TT5 rb rn rp D)]) (xs1 := [.one (sv TT5 fb197 fn198 fp199 (allOf L M)), .one (sv TT5 rb rn rp D)]) (res := [.one (vb true)]) (ats := #[]) (ty := 0) (v := xb true) [.tmp 0, .tmp 1] (by kernel_rfl) (by kernel_rfl) (snap_cons (snap_one hf200) (snap_cons (by kernel_rfl) (snap_nil))) (by have h9 := same_ok fb197 fn198 fp199 rb rn rp (allOf L M) D (by first | rfl | omega | (simp only [ek_]; omega) | (simp; done) | (simp; omega)) (by first | rfl | omega | (simp only [ek_]; omega) | (simp; done) | (simp; omega)); rw [hs1] at h9; exact h9) (by kernel_rfl))))) (by kernel_rfl)) (by kernel_rfl) ?_
 refine wG (On.back1 hs196 1 rfl (On.at hs185 1 rfl)) fun H201 hs202 => ?_
 refine wE ?_
 refine ⟨Or.inr rfl, [.one (vb true)], (by kernel_rfl), ?_⟩
 exact ⟨rfl, (On.pick [0, 6, 7, 8] [1, 2, 3, 4, 5, 9] (by kernel_rfl) hs202)⟩
end Go.Proofs.Ytjhgjbagmkiibaa.E
