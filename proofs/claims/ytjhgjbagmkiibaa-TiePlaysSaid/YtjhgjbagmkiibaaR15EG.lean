/- Lemmas. -/
import Derived.Test.YtjhgjbagmkiibaaR15ED
section
namespace Go.Proofs.Ytjhgjbagmkiibaa.E
open Go.Lg
set_option linter.unusedVariables false
set_option maxRecDepth 100000
set_option maxHeartbeats 8000000
set_option linter.unusedSimpArgs false
theorem lenWd (M : List TI.T) (b : PD.T) : ((watOf M b).length : Int) ≤ (M.length : Int) := by
  unfold watOf
  rw [eo_]
  exact lenIM _ _
theorem lenGd (M : List TI.T) (a : PD.T) : ((toldG M a).length : Int) ≤ (M.length : Int) := by
  unfold toldG
  rw [eo_]
  exact lenIM _ _
theorem lenGL (L : List PR.T) (a : PD.T) : ((goneL L a).length : Int) ≤ (L.length : Int) := by
  unfold goneL
  rw [delsL_is]
  exact Int.ofNat_le.2 (List.length_filter_le _ _)
theorem lenGM (M : List TI.T) (a : PD.T) : ((goneM M a).length : Int) ≤ (M.length : Int) := by
  unfold goneM
  rw [delsM_is]
  exact Int.ofNat_le.2 (List.length_filter_le _ _)
theorem aw_elem {l : List TT5.T} {n : Nat} {x y z : TT5.T} (hx : l[n]? = some x) (h9 : l[n]? = some y) (hz : eqb TT5 y z = true) : eqb TT5 x z = true := by
  rw [hx] at h9
  cases h9
  exact hz
theorem awake_ok (R : HP) (H : HH) (hs : On [R] H) : ∃ rs H', Runs pg an 17 [] H rs H' ∧ rs = [.one (vb true)] ∧ On [R] H' := by
 refine rOF Try.func17 rfl ?_
 refine rs0 [] ?_
 obtain ⟨_, H4, hr5, n1, n2, n3, rfl, hs6⟩ := new_ok _ (H : HH) (On.call [] [0] (by kernel_rfl) hs)
 have hs6 : On [R, pts n1 (lnkO ([])), pts n2 (monO ([])), pts n3 (.obj [.mp n1, .mp n2])] H4 := On.flat hs6
 refine rGz [(1, yp n3)] hs6 (zL 0 (Jn (H := H) (g := 7) (vals := []) (xs0 := []) (res := [.one (.ptr n3 0)]) (ats := #[]) (ty := 0) (v := yp n3) (H' := H4) [] (by kernel_rfl) (by kernel_rfl) hr5 (by kernel_rfl))) fun H7 hs8 => ?_
 obtain ⟨n9, hn9⟩ := lX H7
 obtain ⟨n10, hn10⟩ := lX (H7 ++ [.obj [vi 0, vi 0]])
 refine rGz [(1, yp n3), (2, yp n9), (3, yp n10)] (On.put (.obj [vi 1, vi 1]) (On.put (.obj [vi 2, vi 1]) (On.new' hn10 (.obj [vi 0, vi 0]) (On.new' hn9 (.obj [vi 0, vi 0]) hs8)) 4 rfl) 5 rfl) (zA 2 (qO 24 [vi 0, vi 0] hn9) (zA 3 (qO 24 [vi 0, vi 0] hn10) (zA 4 (qS 24 0 (.agg [vi 2, vi 1]) (On.at (On.new' hn10 (.obj [vi 0, vi 0]) (On.new' hn9 (.obj [vi 0, vi 0]) hs8)) 4 rfl)) (zL 5 (qS 24 0 (.agg [vi 1, vi 1]) (On.at (On.put (.obj [vi 2, vi 1]) (On.new' hn10 (.obj [vi 0, vi 0]) (On.new' hn9 (.obj [vi 0, vi 0]) hs8)) 4 rfl) 5 rfl)))))) fun H11 hs12 => ?_
 refine wS ?_
 obtain ⟨_, H14, hr15, rfl, hs16⟩ := link_ok _ (H11 : HH) n3 n1 n2 ([]) ([]) (2, (1, ())) (1, (1, ())) (On.call [3, 1, 2] [0, 4, 5] (by kernel_rfl) hs12) (by kernel_rfl)
 have hs16 : On [R, pts n9 (.obj [vi 2, vi 1]), pts n10 (.obj [vi 1, vi 1]), pts n3 (.obj [.mp n1, .mp n2]), pts n1 (lnkO (linkL ([]) ([]) (2, (1, ())) (1, (1, ())))), pts n2 (monO ([]))] H14 := On.flat hs16
 have he13 : ((linkE ([]) ([]) (2, (1, ())) (1, (1, ()))) : Int) = 0 := by kernel_rfl
 obtain ⟨_, H18, hr19, rfl, hs20⟩ := monitor_ok _ (H14 : HH) n3 n1 n2 (linkL ([]) ([]) (2, (1, ())) (1, (1, ()))) ([]) 5 (1, (1, ())) (2, (1, ())) (On.call [3, 4, 5] [0, 1, 2] (by kernel_rfl) hs16) (by kernel_rfl)
 have hs20 : On [R, pts n9 (.obj [vi 2, vi 1]), pts n10 (.obj [vi 1, vi 1]), pts n3 (.obj [.mp n1, .mp n2]), pts n1 (lnkO (linkL ([]) ([]) (2, (1, ())) (1, (1, ())))), pts n2 (monO (monM (linkL ([]) ([]) (2, (1, ())) (1, (1, ()))) ([]) 5 (1, (1, ())) (2, (1, ()))))] H18 := On.flat hs20
 have he17 : ((monE (linkL ([]) ([]) (2, (1, ())) (1, (1, ()))) ([]) 5 (1, (1, ())) (2, (1, ()))) : Int) = 0 := by kernel_rfl
 refine rGz [(1, yp n3), (2, yp n9), (3, yp n10), (23, xb false)] hs20 (zA 4 (qL 24 0 (.agg [vi 2, vi 1]) (On.at hs12 4 rfl)) (zA 5 (qL 24 0 (.agg [vi 1, vi 1]) (On.at hs12 5 rfl)) (zA 6 (qC3 hr15) (zA 7 (Ja (vals := [xi (linkE ([]) ([]) (2, (1, ())) (1, (1, ()))), xi 0]) (H := H14) (op := .binOp .neq 29 (.tmp 0) (.tmp 1) 29) (ty := 0) (r := xb (bneI ((linkE ([]) ([]) (2, (1, ())) (1, (1, ())))) (0))) (v := xb false) (by kernel_rfl) (congrArg (fun z => xb z) (bne_f (by omega)))) (zA 11 (qL 24 0 (.agg [vi 1, vi 1]) (On.at hs16 2 rfl)) (zA 12 (qL 24 0 (.agg [vi 2, vi 1]) (On.at hs16 1 rfl)) (zA 13 (Jn (H := H14) (g := 12) (vals := [yp n3, xi 5, .y (.agg [vi 1, vi 1]), .y (.agg [vi 2, vi 1])]) (xs0 := [.one (.ptr n3 0), .one (vi 5), .agg [vi 1, vi 1], .agg [vi 2, vi 1]]) (res := [.one (vi (monE (linkL ([]) ([]) (2, (1, ())) (1, (1, ()))) ([]) 5 (1, (1, ())) (2, (1, ()))))]) (ats := #[]) (ty := 0) (v := xi (monE (linkL ([]) ([]) (2, (1, ())) (1, (1, ()))) ([]) 5 (1, (1, ())) (2, (1, ())))) (H' := H18) [.tmp 0, .tmp 1, .tmp 2, .tmp 3] (by kernel_rfl) (by kernel_rfl) hr19 (by kernel_rfl)) (zL 14 (Ja (vals := [xi (monE (linkL ([]) ([]) (2, (1, ())) (1, (1, ()))) ([]) 5 (1, (1, ())) (2, (1, ()))), xi 0]) (H := H18) (op := .binOp .neq 29 (.tmp 0) (.tmp 1) 29) (ty := 0) (r := xb (bneI ((monE (linkL ([]) ([]) (2, (1, ())) (1, (1, ()))) ([]) 5 (1, (1, ())) (2, (1, ())))) (0))) (v := xb false) (by kernel_rfl) (congrArg (fun z => xb z) (bne_f (by omega)))))))))))) fun H21 hs22 => ?_
 refine wFk ?_
 obtain ⟨_, H26, hr27, c23, rfl, hs28⟩ := all_c (A := an) rfl rfl _ (H21 : HH) n3 n1 n2 (linkL ([]) ([]) (2, (1, ())) (1, (1, ()))) (monM (linkL ([]) ([]) (2, (1, ())) (1, (1, ()))) ([]) 5 (1, (1, ())) (2, (1, ()))) (On.call [3, 4, 5] [0, 1, 2] (by kernel_rfl) hs22) (by kernel_rfl)
 have hs28 : On [R, pts n9 (.obj [vi 2, vi 1]), pts n10 (.obj [vi 1, vi 1]), pts n3 (.obj [.mp n1, .mp n2]), pts n1 (lnkO (linkL ([]) ([]) (2, (1, ())) (1, (1, ())))), pts n2 (monO (monM (linkL ([]) ([]) (2, (1, ())) (1, (1, ()))) ([]) 5 (1, (1, ())) (2, (1, ())))), ownP TT5 c23 (allOf (linkL ([]) ([]) (2, (1, ())) (1, (1, ()))) (monM (linkL ([]) ([]) (2, (1, ())) (1, (1, ()))) ([]) 5 (1, (1, ())) (2, (1, ()))))] H26 := On.flat hs28
 have hk24 : ((allOf (linkL ([]) ([]) (2, (1, ())) (1, (1, ()))) (monM (linkL ([]) ([]) (2, (1, ())) (1, (1, ()))) ([]) 5 (1, (1, ())) (2, (1, ())))).length : Int) = ((linkL ([]) ([]) (2, (1, ())) (1, (1, ()))).length : Int) + ((monM (linkL ([]) ([]) (2, (1, ())) (1, (1, ()))) ([]) 5 (1, (1, ())) (2, (1, ()))).length : Int) := allLen _ _
 have he25 : ((allOf (linkL ([]) ([]) (2, (1, ())) (1, (1, ()))) (monM (linkL ([]) ([]) (2, (1, ())) (1, (1, ()))) ([]) 5 (1, (1, ())) (2, (1, ())))).length : Int) = 2 := by kernel_rfl
 refine rGz [(1, yp n3), (2, yp n9), (3, yp n10), (4, .y (.one (c23)))] hs28 (zL 1 (qC1 hr27)) fun H29 hs30 => ?_
 obtain ⟨rfl, hl33, hs31⟩ | ⟨k34, rfl, k34z, hs32⟩ := own_open hs30 6 rfl
 ·
  have hl33n : ((allOf (linkL ([]) ([]) (2, (1, ())) (1, (1, ()))) (monM (linkL ([]) ([]) (2, (1, ())) (1, (1, ()))) ([]) 5 (1, (1, ())) (2, (1, ())))).length : Int) = 0 := by rw [hl33]; rfl
  exfalso; omega
 obtain ⟨x35, hx35⟩ : ∃ x : TT5.T, (allOf (linkL ([]) ([]) (2, (1, ())) (1, (1, ()))) (monM (linkL ([]) ([]) (2, (1, ())) (1, (1, ()))) ([]) 5 (1, (1, ())) (2, (1, ()))))[0]? = some x := get_of (by first | rfl | omega | (simp only [ek_]; omega) | (simp; done) | (simp; omega))
 have hb36 : (eqb TT5 x35 (0, ((1, (1, ())), ((2, (1, ())), ())))) = true := aw_elem (y := ((0, ((1, (1, ())), ((2, (1, ())), ()))) : TT5.T)) hx35 (by kernel_rfl) (by kernel_rfl)
 obtain ⟨_, H40, hr41, c37, rfl, hs42⟩ := links_c (A := an) rfl rfl _ (H29 : HH) n3 n1 n2 (linkL ([]) ([]) (2, (1, ())) (1, (1, ()))) (monM (linkL ([]) ([]) (2, (1, ())) (1, (1, ()))) ([]) 5 (1, (1, ())) (2, (1, ()))) (1, (1, ())) (On.call [3, 4, 5] [0, 1, 2, 6] (by kernel_rfl) hs32) (by kernel_rfl)
 have hs42 : On [R, pts n9 (.obj [vi 2, vi 1]), pts n10 (.obj [vi 1, vi 1]), pts k34 (rowO TT5 true 0 (allOf (linkL ([]) ([]) (2, (1, ())) (1, (1, ()))) (monM (linkL ([]) ([]) (2, (1, ())) (1, (1, ()))) ([]) 5 (1, (1, ())) (2, (1, ()))))), pts n3 (.obj [.mp n1, .mp n2]), pts n1 (lnkO (linkL ([]) ([]) (2, (1, ())) (1, (1, ())))), pts n2 (monO (monM (linkL ([]) ([]) (2, (1, ())) (1, (1, ()))) ([]) 5 (1, (1, ())) (2, (1, ())))), ownP PD c37 (isort ltD (lnkOf (linkL ([]) ([]) (2, (1, ())) (1, (1, ()))) (1, (1, ()))))] H40 := On.flat hs42
 have hk38 : ((isort ltD (lnkOf (linkL ([]) ([]) (2, (1, ())) (1, (1, ()))) (1, (1, ())))).length : Int) ≤ ((linkL ([]) ([]) (2, (1, ())) (1, (1, ()))).length : Int) := lenLd _ _
 have he39 : ((isort ltD (lnkOf (linkL ([]) ([]) (2, (1, ())) (1, (1, ()))) (1, (1, ())))).length : Int) = 1 := by kernel_rfl
 obtain ⟨_, H44, hr45, rfl, hs46⟩ := link_ok _ (H40 : HH) n3 n1 n2 (linkL ([]) ([]) (2, (1, ())) (1, (1, ()))) (monM (linkL ([]) ([]) (2, (1, ())) (1, (1, ()))) ([]) 5 (1, (1, ())) (2, (1, ()))) (2, (1, ())) (2, (1, ())) (On.call [4, 5, 6] [0, 1, 2, 3, 7] (by kernel_rfl) hs42) (by kernel_rfl)
 have hs46 : On [R, pts n9 (.obj [vi 2, vi 1]), pts n10 (.obj [vi 1, vi 1]), pts k34 (rowO TT5 true 0 (allOf (linkL ([]) ([]) (2, (1, ())) (1, (1, ()))) (monM (linkL ([]) ([]) (2, (1, ())) (1, (1, ()))) ([]) 5 (1, (1, ())) (2, (1, ()))))), ownP PD c37 (isort ltD (lnkOf (linkL ([]) ([]) (2, (1, ())) (1, (1, ()))) (1, (1, ())))), pts n3 (.obj [.mp n1, .mp n2]), pts n1 (lnkO (linkL (linkL ([]) ([]) (2, (1, ())) (1, (1, ()))) (monM (linkL ([]) ([]) (2, (1, ())) (1, (1, ()))) ([]) 5 (1, (1, ())) (2, (1, ()))) (2, (1, ())) (2, (1, ())))), pts n2 (monO (monM (linkL ([]) ([]) (2, (1, ())) (1, (1, ()))) ([]) 5 (1, (1, ())) (2, (1, ()))))] H44 := On.flat hs46
 have he43 : ((linkE (linkL ([]) ([]) (2, (1, ())) (1, (1, ()))) (monM (linkL ([]) ([]) (2, (1, ())) (1, (1, ()))) ([]) 5 (1, (1, ())) (2, (1, ()))) (2, (1, ())) (2, (1, ()))) : Int) = 1 := by kernel_rfl
 refine rGz [(0, xb true)] hs46 (zA 1 (Jf (H := H29) (s := TT5) (t := 35) (ty := 0) (pu := true) (capd := false) (id := k34) (d := 0) (o := 0) (n := ((allOf (linkL ([]) ([]) (2, (1, ())) (1, (1, ()))) (monM (linkL ([]) ([]) (2, (1, ())) (1, (1, ()))) ([]) 5 (1, (1, ())) (2, (1, ())))).length)) (l := (allOf (linkL ([]) ([]) (2, (1, ())) (1, (1, ()))) (monM (linkL ([]) ([]) (2, (1, ())) (1, (1, ()))) ([]) 5 (1, (1, ())) (2, (1, ()))))) (e := ((allOf (linkL ([]) ([]) (2, (1, ())) (1, (1, ()))) (monM (linkL ([]) ([]) (2, (1, ())) (1, (1, ()))) ([]) 5 (1, (1, ())) (2, (1, ())))).length : Int)) (On.at hs32 6 rfl) (by kernel_rfl) (by first | rfl | omega | (simp only [ek_]; omega) | (simp; done) | (simp; omega))) (zA 2 (Ja (vals := [xi ((allOf (linkL ([]) ([]) (2, (1, ())) (1, (1, ()))) (monM (linkL ([]) ([]) (2, (1, ())) (1, (1, ()))) ([]) 5 (1, (1, ())) (2, (1, ())))).length : Int), xi 2]) (H := H29) (op := .binOp .eql 3 (.tmp 0) (.tmp 1) 3) (ty := 0) (r := xb (beqI (((allOf (linkL ([]) ([]) (2, (1, ())) (1, (1, ()))) (monM (linkL ([]) ([]) (2, (1, ())) (1, (1, ()))) ([]) 5 (1, (1, ())) (2, (1, ())))).length : Int)) (2))) (v := xb true) (by kernel_rfl) (congrArg (fun z => xb z) (beq_t (by omega)))) (zA 5 (Jj (H := H29) (s := TT5) (t := 35) (el := 41) (ty := 0) (pu := true) (capd := false) (id := k34) (d := 0) (o := 0) (n := ((allOf (linkL ([]) ([]) (2, (1, ())) (1, (1, ()))) (monM (linkL ([]) ([]) (2, (1, ())) (1, (1, ()))) ([]) 5 (1, (1, ())) (2, (1, ())))).length)) (j := 0) (l := (allOf (linkL ([]) ([]) (2, (1, ())) (1, (1, ()))) (monM (linkL ([]) ([]) (2, (1, ())) (1, (1, ()))) ([]) 5 (1, (1, ())) (2, (1, ()))))) (i := 0) (On.at hs32 6 rfl) Try.underlying35 (by kernel_rfl) (by omega) (by first | rfl | omega | (simp only [ek_]; omega) | (simp; done) | (simp; omega)) (by first | rfl | omega | (simp only [ek_]; omega) | (simp; done) | (simp; omega)) (by first | rfl | omega | (simp only [ek_]; omega) | (simp; done) | (simp; omega))) (zA 6 (Jo (H := H29) (s := TT5) (t := 41) (ty := 0) (pu := true) (id := k34) (d := 0) (j := 0) (o := 0) (n := 5) (l := (allOf (linkL ([]) ([]) (2, (1, ())) (1, (1, ()))) (monM (linkL ([]) ([]) (2, (1, ())) (1, (1, ()))) ([]) 5 (1, (1, ())) (2, (1, ()))))) (x := x35) (v := .agg [vi x35.1, vi x35.2.1.1, vi x35.2.1.2.1, vi x35.2.2.1.1, vi x35.2.2.1.2.1]) (On.at hs32 6 rfl) (by kernel_rfl) (by kernel_rfl) (of_content (L := (allOf (linkL ([]) ([]) (2, (1, ())) (1, (1, ()))) (monM (linkL ([]) ([]) (2, (1, ())) (1, (1, ()))) ([]) 5 (1, (1, ())) (2, (1, ()))))) (o := 0) (n := ((allOf (linkL ([]) ([]) (2, (1, ())) (1, (1, ()))) (monM (linkL ([]) ([]) (2, (1, ())) (1, (1, ()))) ([]) 5 (1, (1, ())) (2, (1, ())))).length)) (dt0 rfl (Nat.le_refl _)) hx35 (by first | rfl | omega | (simp only [ek_]; omega) | (simp; done) | (simp; omega))) (by kernel_rfl)) (zA 7 (qL 24 0 (.agg [vi 1, vi 1]) (On.at hs32 2 rfl)) (zA 8 (qL 24 0 (.agg [vi 2, vi 1]) (On.at hs32 1 rfl)) (zA 10 (Jh (H := H29) (s := TT5) (t := 41) (u := 41) (ty := 0) (x := x35) (y := (0, ((1, (1, ())), ((2, (1, ())), ())))) (r := true) (by kernel_rfl) hb36) (zA 14 (qL 24 0 (.agg [vi 1, vi 1]) (On.at hs32 2 rfl)) (zA 15 (qC2 hr41) (zA 16 (ob_len_own (P := pg) (A := an) (s := PD) (c := c37) (l := (isort ltD (lnkOf (linkL ([]) ([]) (2, (1, ())) (1, (1, ()))) (1, (1, ()))))) (t := 32) (ty := 0) (e := ((isort ltD (lnkOf (linkL ([]) ([]) (2, (1, ())) (1, (1, ()))) (1, (1, ())))).length : Int)) hs42 7 rfl (by kernel_rfl) rfl) (zA 17 (Ja (vals := [xi ((isort ltD (lnkOf (linkL ([]) ([]) (2, (1, ())) (1, (1, ()))) (1, (1, ())))).length : Int), xi 1]) (H := H40) (op := .binOp .eql 3 (.tmp 0) (.tmp 1) 3) (ty := 0) (r := xb (beqI (((isort ltD (lnkOf (linkL ([]) ([]) (2, (1, ())) (1, (1, ()))) (1, (1, ())))).length : Int)) (1))) (v := xb true) (by kernel_rfl) (congrArg (fun z => xb z) (beq_t (by omega)))) (zA 21 (qL 24 0 (.agg [vi 2, vi 1]) (On.at hs42 1 rfl)) (zA 22 (qL 24 0 (.agg [vi 2, vi 1]) (On.at hs42 1 rfl)) (zA 23 (qC3 hr45) (zL 24 (Ja (vals := [xi (linkE (linkL ([]) ([]) (2, (1, ())) (1, (1, ()))) (monM (linkL ([]) ([]) (2, (1, ())) (1, (1, ()))) ([]) 5 (1, (1, ())) (2, (1, ()))) (2, (1, ())) (2, (1, ()))), xi 1]) (H := H44) (op := .binOp .eql 29 (.tmp 0) (.tmp 1) 29) (ty := 0) (r := xb (beqI ((linkE (linkL ([]) ([]) (2, (1, ())) (1, (1, ()))) (monM (linkL ([]) ([]) (2, (1, ())) (1, (1, ()))) ([]) 5 (1, (1, ())) (2, (1, ()))) (2, (1, ())) (2, (1, ())))) (1))) (v := xb true) (by kernel_rfl) (congrArg (fun z => xb z) (beq_t (by omega))))))))))))))))))) fun H47 hs48 => ?_
 refine wE ?_
 refine ⟨Or.inr rfl, [.one (vb true)], (by kernel_rfl), ?_⟩
 exact ⟨rfl, (On.pick [0] [1, 2, 3, 4, 5, 6, 7] (by kernel_rfl) hs48)⟩
end Go.Proofs.Ytjhgjbagmkiibaa.E
end
section
namespace Go.Proofs.Ytjhgjbagmkiibaa.E
open Go.Lg Go.Sort
set_option maxRecDepth 100000
set_option linter.unusedVariables false
set_option linter.unusedSimpArgs false
def isZ (x : TT5.T) : Bool := decide (IEq x.1 0)
def isR (x : TT5.T) : Bool := decide (ILt 0 x.1)
def aheadB (x y : TT5.T) : Bool := if isZ x = true then (if isZ y = true then (ltD x.2.1 y.2.1 || (eqb PD x.2.1 y.2.1 && ltD x.2.2.1 y.2.2.1)) else true) else (if isZ y = true then false else decide (ILt x.1 y.1))
def okE (x : TT5.T) : Bool := mayP x.2.1 && (mayP x.2.2.1 && (decide (ILe 0 x.1) && (decide (ILe x.1 4611686018427387903) && (!(isZ x) || ltD x.2.1 x.2.2.1))))
def dlk1 (l : List TT5.T) (a : PD.T) : List PD.T := (l.filter fun x => isZ x && eqb PD x.2.2.1 a).map (·.2.1)
def dlk2 (l : List TT5.T) (a : PD.T) : List PD.T := (l.filter fun x => isZ x && eqb PD x.2.1 a).map (·.2.2.1)
def dwat (l : List TT5.T) (a : PD.T) : List TT5.T := l.filter fun x => isR x && eqb PD x.2.2.1 a
def dmayP (l : List TT5.T) (n : Nat) : Prop := (∀ x ∈ l.take n, okE x = true) ∧ ∀ j x y, j + 1 < n → l[j]? = some x → l[j + 1]? = some y → aheadB x y = true
noncomputable def dmay (l : List TT5.T) : Bool := @decide (dmayP l l.length) (Classical.propDecidable _)
noncomputable def dldE (l : List TT5.T) : Int := if dmay l = true then (if (1024 : Int) < (l.length : Int) then 150 else 0) else 1
theorem take_next {α : Type} {l : List α} {i : Int} {x : α} (h0 : 0 ≤ i) (hx : l[i.toNat]? = some x) : l.take (i + 1).toNat = l.take i.toNat ++ [x] := by
 rw [show (i + 1).toNat = i.toNat + 1 by omega, List.take_add_one, hx]
 rfl
theorem filt_yes {α : Type} {p : α → Bool} {l : List α} {i : Int} {x : α} (h0 : 0 ≤ i) (hx : l[i.toNat]? = some x) (hp : p x = true) : (l.take (i + 1).toNat).filter p = (l.take i.toNat).filter p ++ [x] := by
 rw [take_next h0 hx, List.filter_append, List.filter_cons_of_pos hp]
 rfl
theorem filt_no {α : Type} {p : α → Bool} {l : List α} {i : Int} {x : α} (h0 : 0 ≤ i) (hx : l[i.toNat]? = some x) (hp : p x = false) : (l.take (i + 1).toNat).filter p = (l.take i.toNat).filter p := by
 rw [take_next h0 hx, List.filter_append, List.filter_cons_of_neg (by rw [hp]; simp), List.filter_nil, eb_]
theorem dlk1_yes {l : List TT5.T} {a : PD.T} {i : Int} {x : TT5.T} (h0 : 0 ≤ i) (hx : l[i.toNat]? = some x) (hz : IEq x.1 0) (he : eqb PD x.2.2.1 a = true) : dlk1 (l.take i.toNat) a ++ [x.2.1] = dlk1 (l.take (i + 1).toNat) a := by
 unfold dlk1
 rw [filt_yes h0 hx (by rw [he]; unfold isZ; rw [decide_eq_true hz]; rfl), List.map_append]
 rfl
theorem isZf {x : TT5.T} (h : ¬ IEq x.1 0) : isZ x = false := decide_eq_false h
theorem dlk1_no {l : List TT5.T} {a : PD.T} {i : Int} {x : TT5.T} (h0 : 0 ≤ i) (hx : l[i.toNat]? = some x) (h : ¬ IEq x.1 0 ∨ eqb PD x.2.2.1 a = false) : dlk1 (l.take i.toNat) a = dlk1 (l.take (i + 1).toNat) a := by
 unfold dlk1
 refine congrArg (List.map _) (filt_no h0 hx ?_).symm
 rcases h with h | h
 ·rw [isZf h]; rfl
 ·rw [h, Bool.and_false]
theorem dlk2_yes {l : List TT5.T} {a : PD.T} {i : Int} {x : TT5.T} (h0 : 0 ≤ i) (hx : l[i.toNat]? = some x) (hz : IEq x.1 0) (he : eqb PD x.2.1 a = true) : dlk2 (l.take i.toNat) a ++ [x.2.2.1] = dlk2 (l.take (i + 1).toNat) a := by
 unfold dlk2
 rw [filt_yes h0 hx (by rw [he]; unfold isZ; rw [decide_eq_true hz]; rfl), List.map_append]
 rfl
theorem dlk2_no {l : List TT5.T} {a : PD.T} {i : Int} {x : TT5.T} (h0 : 0 ≤ i) (hx : l[i.toNat]? = some x) (h : ¬ IEq x.1 0 ∨ eqb PD x.2.1 a = false) : dlk2 (l.take i.toNat) a = dlk2 (l.take (i + 1).toNat) a := by
 unfold dlk2
 refine congrArg (List.map _) (filt_no h0 hx ?_).symm
 rcases h with h | h
 ·rw [isZf h]; rfl
 ·rw [h, Bool.and_false]
theorem dwat_yes {l : List TT5.T} {a : PD.T} {i : Int} {x : TT5.T} (h0 : 0 ≤ i) (hx : l[i.toNat]? = some x) (hz : ILt 0 x.1) (he : eqb PD x.2.2.1 a = true) : dwat (l.take i.toNat) a ++ [x] = dwat (l.take (i + 1).toNat) a := by
 unfold dwat
 rw [filt_yes h0 hx (by rw [he]; unfold isR; rw [decide_eq_true hz]; rfl)]
theorem dwat_no {l : List TT5.T} {a : PD.T} {i : Int} {x : TT5.T} (h0 : 0 ≤ i) (hx : l[i.toNat]? = some x) (h : ¬ ILt 0 x.1 ∨ eqb PD x.2.2.1 a = false) : dwat (l.take i.toNat) a = dwat (l.take (i + 1).toNat) a := by
 unfold dwat
 refine (filt_no h0 hx ?_).symm
 rcases h with h | h
 ·unfold isR; rw [decide_eq_false h]; rfl
 ·rw [h, Bool.and_false]
theorem take_all {α : Type} {l : List α} {i : Int} (h : (l.length : Int) ≤ i) : l.take i.toNat = l := List.take_of_length_le (by omega)
end Go.Proofs.Ytjhgjbagmkiibaa.E
end
section
namespace Go.Proofs.Ytjhgjbagmkiibaa.E
open Go.Lg
set_option linter.unusedVariables false
set_option maxRecDepth 100000
set_option maxHeartbeats 8000000
set_option linter.unusedSimpArgs false
theorem rpid_ok (a : PD.T)  : PureC pg an 54 [.agg [vi a.1, vi a.2.1]] [.one (vb (mayP a))] := by
 refine rOF Try.func54 rfl ?_
 obtain ⟨n1, hn1⟩ := lX []
 refine rGz [(1, yp n1)] (On.new' hn1 (.obj [vi a.1, vi a.2.1]) (On.nil [])) (zL 0 (qB 24 [vi a.1, vi a.2.1] hn1)) fun H2 hs3 => ?_
 rcases ile (0) (a.1) with c4 | c4
 ·
  rcases ilt (a.1) (256) with c5 | c5
  ·
   rcases ile (1) (a.2.1) with c6 | c6
   ·
    rcases ile (a.2.1) (4611686018427387903) with c7 | c7
    ·
     refine rSz [(2, xb true)] H2 (zA 1 (qL 3 0 (.one (vi a.1)) (On.at hs3 0 rfl)) (zA 2 (qgeqT H2 a.1 0) (zA 5 (qL 3 0 (.one (vi a.1)) (On.at hs3 0 rfl)) (zA 6 (qlssT H2 a.1 256) (zA 10 (qL 3 1 (.one (vi a.2.1)) (On.at hs3 0 rfl)) (zA 11 (qgeqT H2 a.2.1 1) (zA 15 (qL 3 1 (.one (vi a.2.1)) (On.at hs3 0 rfl)) (zL 16 (qleqT H2 a.2.1 4611686018427387903))))))))) ?_
     refine wE ?_
     refine ⟨Or.inr rfl, [.one (vb true)], (by kernel_rfl), ?_⟩
     exact congrArg (fun z => some [Y.one (vb z)]) (show true = mayP a by unfold mayP; exact (decide_eq_true ⟨by omega, by omega, by omega, by omega⟩).symm)
    refine rSz [(2, xb false)] H2 (zA 1 (qL 3 0 (.one (vi a.1)) (On.at hs3 0 rfl)) (zA 2 (qgeqT H2 a.1 0) (zA 5 (qL 3 0 (.one (vi a.1)) (On.at hs3 0 rfl)) (zA 6 (qlssT H2 a.1 256) (zA 10 (qL 3 1 (.one (vi a.2.1)) (On.at hs3 0 rfl)) (zA 11 (qgeqT H2 a.2.1 1) (zA 15 (qL 3 1 (.one (vi a.2.1)) (On.at hs3 0 rfl)) (zL 16 (qleqF H2 a.2.1 4611686018427387903))))))))) ?_
    refine wE ?_
    refine ⟨Or.inr rfl, [.one (vb false)], (by kernel_rfl), ?_⟩
    exact congrArg (fun z => some [Y.one (vb z)]) (show false = mayP a by unfold mayP; exact (decide_eq_false (by rintro ⟨g1, g2, g3, g4⟩; omega)).symm)
   refine rSz [(2, xb false)] H2 (zA 1 (qL 3 0 (.one (vi a.1)) (On.at hs3 0 rfl)) (zA 2 (qgeqT H2 a.1 0) (zA 5 (qL 3 0 (.one (vi a.1)) (On.at hs3 0 rfl)) (zA 6 (qlssT H2 a.1 256) (zA 10 (qL 3 1 (.one (vi a.2.1)) (On.at hs3 0 rfl)) (zL 11 (qgeqF H2 a.2.1 1))))))) ?_
   refine wE ?_
   refine ⟨Or.inr rfl, [.one (vb false)], (by kernel_rfl), ?_⟩
   exact congrArg (fun z => some [Y.one (vb z)]) (show false = mayP a by unfold mayP; exact (decide_eq_false (by rintro ⟨g1, g2, g3, g4⟩; omega)).symm)
  refine rSz [(2, xb false)] H2 (zA 1 (qL 3 0 (.one (vi a.1)) (On.at hs3 0 rfl)) (zA 2 (qgeqT H2 a.1 0) (zA 5 (qL 3 0 (.one (vi a.1)) (On.at hs3 0 rfl)) (zL 6 (qlssF H2 a.1 256))))) ?_
  refine wE ?_
  refine ⟨Or.inr rfl, [.one (vb false)], (by kernel_rfl), ?_⟩
  exact congrArg (fun z => some [Y.one (vb z)]) (show false = mayP a by unfold mayP; exact (decide_eq_false (by rintro ⟨g1, g2, g3, g4⟩; omega)).symm)
 refine rSz [(2, xb false)] H2 (zA 1 (qL 3 0 (.one (vi a.1)) (On.at hs3 0 rfl)) (zL 2 (qgeqF H2 a.1 0))) ?_
 refine wE ?_
 refine ⟨Or.inr rfl, [.one (vb false)], (by kernel_rfl), ?_⟩
 exact congrArg (fun z => some [Y.one (vb z)]) (show false = mayP a by unfold mayP; exact (decide_eq_false (by rintro ⟨g1, g2, g3, g4⟩; omega)).symm)
theorem before_ok (a b : PD.T)  : PureC pg an 55 [.agg [vi a.1, vi a.2.1], .agg [vi b.1, vi b.2.1]] [.one (vb (ltD a b))] := by
 refine rOF Try.func55 rfl ?_
 obtain ⟨n1, hn1⟩ := lX []
 obtain ⟨n2, hn2⟩ := lX ([] ++ [.obj [vi a.1, vi a.2.1]])
 refine rGz [(2, yp n1), (3, yp n2)] (On.new' hn2 (.obj [vi b.1, vi b.2.1]) (On.new' hn1 (.obj [vi a.1, vi a.2.1]) (On.nil []))) (zA 0 (qB 24 [vi a.1, vi a.2.1] hn1) (zL 1 (qB 24 [vi b.1, vi b.2.1] hn2))) fun H3 hs4 => ?_
 rcases ilt (a.1) (b.1) with c5 | c5
 ·
  refine rSz [(4, xb true)] H3 (zA 1 (qL 3 0 (.one (vi a.1)) (On.at hs4 0 rfl)) (zA 3 (qL 3 0 (.one (vi b.1)) (On.at hs4 1 rfl)) (zL 4 (qlssT H3 a.1 b.1)))) ?_
  refine wE ?_
  refine ⟨Or.inr rfl, [.one (vb true)], (by kernel_rfl), ?_⟩
  exact congrArg (fun z => some [Y.one (vb z)]) (show true = ltD a b by unfold ltD ltP; exact (decide_eq_true (by dsimp only; omega)).symm)
 rcases ieq (a.1) (b.1) with c6 | c6
 ·
  rcases ilt (a.2.1) (b.2.1) with c7 | c7
  ·
   refine rSz [(4, xb true)] H3 (zA 1 (qL 3 0 (.one (vi a.1)) (On.at hs4 0 rfl)) (zA 3 (qL 3 0 (.one (vi b.1)) (On.at hs4 1 rfl)) (zA 4 (qlssF H3 a.1 b.1) (zA 7 (qL 3 0 (.one (vi a.1)) (On.at hs4 0 rfl)) (zA 9 (qL 3 0 (.one (vi b.1)) (On.at hs4 1 rfl)) (zA 10 (Ja (vals := [xi a.1, xi b.1]) (H := H3) (op := .binOp .eql 3 (.tmp 0) (.tmp 1) 3) (ty := 0) (r := xb (beqI (a.1) (b.1))) (v := xb true) (by kernel_rfl) (congrArg (fun z => xb z) (beq_t (by omega)))) (zA 13 (qL 3 1 (.one (vi a.2.1)) (On.at hs4 0 rfl)) (zA 15 (qL 3 1 (.one (vi b.2.1)) (On.at hs4 1 rfl)) (zL 16 (qlssT H3 a.2.1 b.2.1)))))))))) ?_
   refine wE ?_
   refine ⟨Or.inr rfl, [.one (vb true)], (by kernel_rfl), ?_⟩
   exact congrArg (fun z => some [Y.one (vb z)]) (show true = ltD a b by unfold ltD ltP; exact (decide_eq_true (by dsimp only; omega)).symm)
  refine rSz [(4, xb false)] H3 (zA 1 (qL 3 0 (.one (vi a.1)) (On.at hs4 0 rfl)) (zA 3 (qL 3 0 (.one (vi b.1)) (On.at hs4 1 rfl)) (zA 4 (qlssF H3 a.1 b.1) (zA 7 (qL 3 0 (.one (vi a.1)) (On.at hs4 0 rfl)) (zA 9 (qL 3 0 (.one (vi b.1)) (On.at hs4 1 rfl)) (zA 10 (Ja (vals := [xi a.1, xi b.1]) (H := H3) (op := .binOp .eql 3 (.tmp 0) (.tmp 1) 3) (ty := 0) (r := xb (beqI (a.1) (b.1))) (v := xb true) (by kernel_rfl) (congrArg (fun z => xb z) (beq_t (by omega)))) (zA 13 (qL 3 1 (.one (vi a.2.1)) (On.at hs4 0 rfl)) (zA 15 (qL 3 1 (.one (vi b.2.1)) (On.at hs4 1 rfl)) (zL 16 (qlssF H3 a.2.1 b.2.1)))))))))) ?_
  refine wE ?_
  refine ⟨Or.inr rfl, [.one (vb false)], (by kernel_rfl), ?_⟩
  exact congrArg (fun z => some [Y.one (vb z)]) (show false = ltD a b by unfold ltD ltP; exact (decide_eq_false (by dsimp only; omega)).symm)
 refine rSz [(4, xb false)] H3 (zA 1 (qL 3 0 (.one (vi a.1)) (On.at hs4 0 rfl)) (zA 3 (qL 3 0 (.one (vi b.1)) (On.at hs4 1 rfl)) (zA 4 (qlssF H3 a.1 b.1) (zA 7 (qL 3 0 (.one (vi a.1)) (On.at hs4 0 rfl)) (zA 9 (qL 3 0 (.one (vi b.1)) (On.at hs4 1 rfl)) (zL 10 (Ja (vals := [xi a.1, xi b.1]) (H := H3) (op := .binOp .eql 3 (.tmp 0) (.tmp 1) 3) (ty := 0) (r := xb (beqI (a.1) (b.1))) (v := xb false) (by kernel_rfl) (congrArg (fun z => xb z) (beq_f (by omega)))))))))) ?_
 refine wE ?_
 refine ⟨Or.inr rfl, [.one (vb false)], (by kernel_rfl), ?_⟩
 exact congrArg (fun z => some [Y.one (vb z)]) (show false = ltD a b by unfold ltD ltP; exact (decide_eq_false (by dsimp only; omega)).symm)
theorem ahead_ok (x y : TT5.T)  : PureC pg an 56 [.agg [vi x.1, vi x.2.1.1, vi x.2.1.2.1, vi x.2.2.1.1, vi x.2.2.1.2.1], .agg [vi y.1, vi y.2.1.1, vi y.2.1.2.1, vi y.2.2.1.1, vi y.2.2.1.2.1]] [.one (vb (aheadB x y))] := by
 refine rOF Try.func56 rfl ?_
 obtain ⟨n1, hn1⟩ := lX []
 obtain ⟨n2, hn2⟩ := lX ([] ++ [.obj [vi x.1, vi x.2.1.1, vi x.2.1.2.1, vi x.2.2.1.1, vi x.2.2.1.2.1]])
 refine rGz [(2, yp n1), (3, yp n2)] (On.new' hn2 (.obj [vi y.1, vi y.2.1.1, vi y.2.1.2.1, vi y.2.2.1.1, vi y.2.2.1.2.1]) (On.new' hn1 (.obj [vi x.1, vi x.2.1.1, vi x.2.1.2.1, vi x.2.2.1.1, vi x.2.2.1.2.1]) (On.nil []))) (zA 0 (qB 41 [vi x.1, vi x.2.1.1, vi x.2.1.2.1, vi x.2.2.1.1, vi x.2.2.1.2.1] hn1) (zL 1 (qB 41 [vi y.1, vi y.2.1.1, vi y.2.1.2.1, vi y.2.2.1.1, vi y.2.2.1.2.1] hn2))) fun H3 hs4 => ?_
 refine wS ?_
 rcases ieq (x.1) (0) with c5 | c5
 ·
  rcases ieq (y.1) (0) with c6 | c6
  ·
   refine rSz [(2, yp n1), (3, yp n2), (11, xb false)] H3 (zA 1 (qL 3 0 (.one (vi x.1)) (On.at hs4 0 rfl)) (zA 2 (Ja (vals := [xi x.1, xi 0]) (H := H3) (op := .binOp .eql 3 (.tmp 0) (.tmp 1) 3) (ty := 0) (r := xb (beqI (x.1) (0))) (v := xb true) (by kernel_rfl) (congrArg (fun z => xb z) (beq_t (by omega)))) (zA 4 (qL 3 0 (.one (vi y.1)) (On.at hs4 1 rfl)) (zL 5 (Ja (vals := [xi y.1, xi 0]) (H := H3) (op := .binOp .eql 3 (.tmp 0) (.tmp 1) 3) (ty := 0) (r := xb (beqI (y.1) (0))) (v := xb true) (by kernel_rfl) (congrArg (fun z => xb z) (beq_t (by omega)))))))) ?_
   refine wFk ?_
   refine wS ?_
   refine rSz [(2, yp n1), (3, yp n2), (17, xb false)] H3 (zA 1 (qL 3 0 (.one (vi x.1)) (On.at hs4 0 rfl)) (zL 2 (Ja (vals := [xi x.1, xi 0]) (H := H3) (op := .binOp .neq 3 (.tmp 0) (.tmp 1) 3) (ty := 0) (r := xb (bneI (x.1) (0))) (v := xb false) (by kernel_rfl) (congrArg (fun z => xb z) (bne_f (by omega)))))) ?_
   refine wFk ?_
   rcases Bool.eq_false_or_eq_true ((ltD x.2.1 y.2.1)) with c7 | c7
   ·
    refine rSz [(4, xb true)] H3 (zA 1 (qL 24 1 (.agg [vi x.2.1.1, vi x.2.1.2.1]) (On.at hs4 0 rfl)) (zA 3 (qL 24 1 (.agg [vi y.2.1.1, vi y.2.1.2.1]) (On.at hs4 1 rfl)) (zL 4 (Jd (H := H3) (g := 55) (x := .agg [vi x.2.1.1, vi x.2.1.2.1]) (y := .agg [vi y.2.1.1, vi y.2.1.2.1]) (res := [.one (vb true)]) (by have h9 := before_ok x.2.1 y.2.1; rw [c7] at h9; exact h9) (by kernel_rfl) (by kernel_rfl))))) ?_
    refine wE ?_
    refine ⟨Or.inr rfl, [.one (vb true)], (by kernel_rfl), ?_⟩
    have g0 : decide (IEq x.1 0) = true := decide_eq_true (by omega)
    have g1 : decide (IEq y.1 0) = true := decide_eq_true (by omega)
    have g2 : decide (ILt x.1 y.1) = false := decide_eq_false (by omega)
    exact congrArg (fun z => some [Y.one (vb z)]) (show true = aheadB x y by unfold aheadB isZ; simp only [c7, g0, g1, g2, if_true, if_false, Bool.false_eq_true, decide_true, decide_false, Bool.not_true, Bool.not_false, Bool.and_true, Bool.and_false, Bool.true_and, Bool.false_and, Bool.or_true, Bool.or_false, Bool.true_or, Bool.false_or])
   rcases Bool.eq_false_or_eq_true ((eqb PD x.2.1 y.2.1)) with c8 | c8
   ·
    rcases Bool.eq_false_or_eq_true ((ltD x.2.2.1 y.2.2.1)) with c9 | c9
    ·
     refine rSz [(4, xb true)] H3 (zA 1 (qL 24 1 (.agg [vi x.2.1.1, vi x.2.1.2.1]) (On.at hs4 0 rfl)) (zA 3 (qL 24 1 (.agg [vi y.2.1.1, vi y.2.1.2.1]) (On.at hs4 1 rfl)) (zA 4 (Jd (H := H3) (g := 55) (x := .agg [vi x.2.1.1, vi x.2.1.2.1]) (y := .agg [vi y.2.1.1, vi y.2.1.2.1]) (res := [.one (vb false)]) (by have h9 := before_ok x.2.1 y.2.1; rw [c7] at h9; exact h9) (by kernel_rfl) (by kernel_rfl)) (zA 7 (qL 24 1 (.agg [vi x.2.1.1, vi x.2.1.2.1]) (On.at hs4 0 rfl)) (zA 9 (qL 24 1 (.agg [vi y.2.1.1, vi y.2.1.2.1]) (On.at hs4 1 rfl)) (zA 10 (Jh (H := H3) (s := PD) (t := 24) (u := 24) (ty := 0) (x := x.2.1) (y := y.2.1) (r := true) (by kernel_rfl) c8) (zA 13 (qL 24 3 (.agg [vi x.2.2.1.1, vi x.2.2.1.2.1]) (On.at hs4 0 rfl)) (zA 15 (qL 24 3 (.agg [vi y.2.2.1.1, vi y.2.2.1.2.1]) (On.at hs4 1 rfl)) (zL 16 (Jd (H := H3) (g := 55) (x := .agg [vi x.2.2.1.1, vi x.2.2.1.2.1]) (y := .agg [vi y.2.2.1.1, vi y.2.2.1.2.1]) (res := [.one (vb true)]) (by have h9 := before_ok x.2.2.1 y.2.2.1; rw [c9] at h9; exact h9) (by kernel_rfl) (by kernel_rfl))))))))))) ?_
     refine wE ?_
     refine ⟨Or.inr rfl, [.one (vb true)], (by kernel_rfl), ?_⟩
     have g0 : decide (IEq x.1 0) = true := decide_eq_true (by omega)
     have g1 : decide (IEq y.1 0) = true := decide_eq_true (by omega)
     have g2 : decide (ILt x.1 y.1) = false := decide_eq_false (by omega)
     exact congrArg (fun z => some [Y.one (vb z)]) (show true = aheadB x y by unfold aheadB isZ; simp only [c7, c8, c9, g0, g1, g2, if_true, if_false, Bool.false_eq_true, decide_true, decide_false, Bool.not_true, Bool.not_false, Bool.and_true, Bool.and_false, Bool.true_and, Bool.false_and, Bool.or_true, Bool.or_false, Bool.true_or, Bool.false_or])
    refine rSz [(4, xb false)] H3 (zA 1 (qL 24 1 (.agg [vi x.2.1.1, vi x.2.1.2.1]) (On.at hs4 0 rfl)) (zA 3 (qL 24 1 (.agg [vi y.2.1.1, vi y.2.1.2.1]) (On.at hs4 1 rfl)) (zA 4 (Jd (H := H3) (g := 55) (x := .agg [vi x.2.1.1, vi x.2.1.2.1]) (y := .agg [vi y.2.1.1, vi y.2.1.2.1]) (res := [.one (vb false)]) (by have h9 := before_ok x.2.1 y.2.1; rw [c7] at h9; exact h9) (by kernel_rfl) (by kernel_rfl)) (zA 7 (qL 24 1 (.agg [vi x.2.1.1, vi x.2.1.2.1]) (On.at hs4 0 rfl)) (zA 9 (qL 24 1 (.agg [vi y.2.1.1, vi y.2.1.2.1]) (On.at hs4 1 rfl)) (zA 10 (Jh (H := H3) (s := PD) (t := 24) (u := 24) (ty := 0) (x := x.2.1) (y := y.2.1) (r := true) (by kernel_rfl) c8) (zA 13 (qL 24 3 (.agg [vi x.2.2.1.1, vi x.2.2.1.2.1]) (On.at hs4 0 rfl)) (zA 15 (qL 24 3 (.agg [vi y.2.2.1.1, vi y.2.2.1.2.1]) (On.at hs4 1 rfl)) (zL 16 (Jd (H := H3) (g := 55) (x := .agg [vi x.2.2.1.1, vi x.2.2.1.2.1]) (y := .agg [vi y.2.2.1.1, vi y.2.2.1.2.1]) (res := [.one (vb false)]) (by have h9 := before_ok x.2.2.1 y.2.2.1; rw [c9] at h9; exact h9) (by kernel_rfl) (by kernel_rfl))))))))))) ?_
    refine wE ?_
    refine ⟨Or.inr rfl, [.one (vb false)], (by kernel_rfl), ?_⟩
    have g0 : decide (IEq x.1 0) = true := decide_eq_true (by omega)
    have g1 : decide (IEq y.1 0) = true := decide_eq_true (by omega)
    have g2 : decide (ILt x.1 y.1) = false := decide_eq_false (by omega)
    exact congrArg (fun z => some [Y.one (vb z)]) (show false = aheadB x y by unfold aheadB isZ; simp only [c7, c8, c9, g0, g1, g2, if_true, if_false, Bool.false_eq_true, decide_true, decide_false, Bool.not_true, Bool.not_false, Bool.and_true, Bool.and_false, Bool.true_and, Bool.false_and, Bool.or_true, Bool.or_false, Bool.true_or, Bool.false_or])
   refine rSz [(4, xb false)] H3 (zA 1 (qL 24 1 (.agg [vi x.2.1.1, vi x.2.1.2.1]) (On.at hs4 0 rfl)) (zA 3 (qL 24 1 (.agg [vi y.2.1.1, vi y.2.1.2.1]) (On.at hs4 1 rfl)) (zA 4 (Jd (H := H3) (g := 55) (x := .agg [vi x.2.1.1, vi x.2.1.2.1]) (y := .agg [vi y.2.1.1, vi y.2.1.2.1]) (res := [.one (vb false)]) (by have h9 := before_ok x.2.1 y.2.1; rw [c7] at h9; exact h9) (by kernel_rfl) (by kernel_rfl)) (zA 7 (qL 24 1 (.agg [vi x.2.1.1, vi x.2.1.2.1]) (On.at hs4 0 rfl)) (zA 9 (qL 24 1 (.agg [vi y.2.1.1, vi y.2.1.2.1]) (On.at hs4 1 rfl)) (zL 10 (Jh (H := H3) (s := PD) (t := 24) (u := 24) (ty := 0) (x := x.2.1) (y := y.2.1) (r := false) (by kernel_rfl) c8))))))) ?_
   refine wE ?_
   refine ⟨Or.inr rfl, [.one (vb false)], (by kernel_rfl), ?_⟩
   have g0 : decide (IEq x.1 0) = true := decide_eq_true (by omega)
   have g1 : decide (IEq y.1 0) = true := decide_eq_true (by omega)
   have g2 : decide (ILt x.1 y.1) = false := decide_eq_false (by omega)
   exact congrArg (fun z => some [Y.one (vb z)]) (show false = aheadB x y by unfold aheadB isZ; simp only [c7, c8, g0, g1, g2, if_true, if_false, Bool.false_eq_true, decide_true, decide_false, Bool.not_true, Bool.not_false, Bool.and_true, Bool.and_false, Bool.true_and, Bool.false_and, Bool.or_true, Bool.or_false, Bool.true_or, Bool.false_or])
  refine rSz [(2, yp n1), (3, yp n2), (11, xb true)] H3 (zA 1 (qL 3 0 (.one (vi x.1)) (On.at hs4 0 rfl)) (zA 2 (Ja (vals := [xi x.1, xi 0]) (H := H3) (op := .binOp .eql 3 (.tmp 0) (.tmp 1) 3) (ty := 0) (r := xb (beqI (x.1) (0))) (v := xb true) (by kernel_rfl) (congrArg (fun z => xb z) (beq_t (by omega)))) (zA 4 (qL 3 0 (.one (vi y.1)) (On.at hs4 1 rfl)) (zL 5 (Ja (vals := [xi y.1, xi 0]) (H := H3) (op := .binOp .eql 3 (.tmp 0) (.tmp 1) 3) (ty := 0) (r := xb (beqI (y.1) (0))) (v := xb false) (by kernel_rfl) (congrArg (fun z => xb z) (beq_f (by omega)))))))) ?_
  refine wTa ?_
  refine rSz [(4, xb true)] H3 (zA 1 (qL 3 0 (.one (vi x.1)) (On.at hs4 0 rfl)) (zL 2 (Ja (vals := [xi x.1, xi 0]) (H := H3) (op := .binOp .eql 3 (.tmp 0) (.tmp 1) 3) (ty := 0) (r := xb (beqI (x.1) (0))) (v := xb true) (by kernel_rfl) (congrArg (fun z => xb z) (beq_t (by omega)))))) ?_
  refine wE ?_
  refine ⟨Or.inr rfl, [.one (vb true)], (by kernel_rfl), ?_⟩
  have g0 : decide (IEq x.1 0) = true := decide_eq_true (by omega)
  have g1 : decide (IEq y.1 0) = false := decide_eq_false (by omega)
  exact congrArg (fun z => some [Y.one (vb z)]) (show true = aheadB x y by unfold aheadB isZ; simp only [g0, g1, if_true, if_false, Bool.false_eq_true, decide_true, decide_false, Bool.not_true, Bool.not_false, Bool.and_true, Bool.and_false, Bool.true_and, Bool.false_and, Bool.or_true, Bool.or_false, Bool.true_or, Bool.false_or])
 rcases ieq (y.1) (0) with c10 | c10
 ·
  refine rSz [(2, yp n1), (3, yp n2), (11, xb true)] H3 (zA 1 (qL 3 0 (.one (vi x.1)) (On.at hs4 0 rfl)) (zA 2 (Ja (vals := [xi x.1, xi 0]) (H := H3) (op := .binOp .eql 3 (.tmp 0) (.tmp 1) 3) (ty := 0) (r := xb (beqI (x.1) (0))) (v := xb false) (by kernel_rfl) (congrArg (fun z => xb z) (beq_f (by omega)))) (zA 4 (qL 3 0 (.one (vi y.1)) (On.at hs4 1 rfl)) (zL 5 (Ja (vals := [xi y.1, xi 0]) (H := H3) (op := .binOp .eql 3 (.tmp 0) (.tmp 1) 3) (ty := 0) (r := xb (beqI (y.1) (0))) (v := xb true) (by kernel_rfl) (congrArg (fun z => xb z) (beq_t (by omega)))))))) ?_
  refine wTa ?_
  refine rSz [(4, xb false)] H3 (zA 1 (qL 3 0 (.one (vi x.1)) (On.at hs4 0 rfl)) (zL 2 (Ja (vals := [xi x.1, xi 0]) (H := H3) (op := .binOp .eql 3 (.tmp 0) (.tmp 1) 3) (ty := 0) (r := xb (beqI (x.1) (0))) (v := xb false) (by kernel_rfl) (congrArg (fun z => xb z) (beq_f (by omega)))))) ?_
  refine wE ?_
  refine ⟨Or.inr rfl, [.one (vb false)], (by kernel_rfl), ?_⟩
  have g0 : decide (IEq x.1 0) = false := decide_eq_false (by omega)
  have g1 : decide (IEq y.1 0) = true := decide_eq_true (by omega)
  exact congrArg (fun z => some [Y.one (vb z)]) (show false = aheadB x y by unfold aheadB isZ; simp only [g0, g1, if_true, if_false, Bool.false_eq_true, decide_true, decide_false, Bool.not_true, Bool.not_false, Bool.and_true, Bool.and_false, Bool.true_and, Bool.false_and, Bool.or_true, Bool.or_false, Bool.true_or, Bool.false_or])
 refine rSz [(2, yp n1), (3, yp n2), (11, xb false)] H3 (zA 1 (qL 3 0 (.one (vi x.1)) (On.at hs4 0 rfl)) (zA 2 (Ja (vals := [xi x.1, xi 0]) (H := H3) (op := .binOp .eql 3 (.tmp 0) (.tmp 1) 3) (ty := 0) (r := xb (beqI (x.1) (0))) (v := xb false) (by kernel_rfl) (congrArg (fun z => xb z) (beq_f (by omega)))) (zA 4 (qL 3 0 (.one (vi y.1)) (On.at hs4 1 rfl)) (zL 5 (Ja (vals := [xi y.1, xi 0]) (H := H3) (op := .binOp .eql 3 (.tmp 0) (.tmp 1) 3) (ty := 0) (r := xb (beqI (y.1) (0))) (v := xb false) (by kernel_rfl) (congrArg (fun z => xb z) (beq_f (by omega)))))))) ?_
 refine wFk ?_
 refine wS ?_
 refine rSz [(2, yp n1), (3, yp n2), (17, xb true)] H3 (zA 1 (qL 3 0 (.one (vi x.1)) (On.at hs4 0 rfl)) (zL 2 (Ja (vals := [xi x.1, xi 0]) (H := H3) (op := .binOp .neq 3 (.tmp 0) (.tmp 1) 3) (ty := 0) (r := xb (bneI (x.1) (0))) (v := xb true) (by kernel_rfl) (congrArg (fun z => xb z) (bne_t (by omega)))))) ?_
 refine wTa ?_
 rcases ilt (x.1) (y.1) with c11 | c11
 ·
  refine rSz [(4, xb true)] H3 (zA 1 (qL 3 0 (.one (vi x.1)) (On.at hs4 0 rfl)) (zA 3 (qL 3 0 (.one (vi y.1)) (On.at hs4 1 rfl)) (zL 4 (qlssT H3 x.1 y.1)))) ?_
  refine wE ?_
  refine ⟨Or.inr rfl, [.one (vb true)], (by kernel_rfl), ?_⟩
  have g0 : decide (IEq x.1 0) = false := decide_eq_false (by omega)
  have g1 : decide (IEq y.1 0) = false := decide_eq_false (by omega)
  have g2 : decide (ILt x.1 y.1) = true := decide_eq_true (by omega)
  exact congrArg (fun z => some [Y.one (vb z)]) (show true = aheadB x y by unfold aheadB isZ; simp only [g0, g1, g2, if_true, if_false, Bool.false_eq_true, decide_true, decide_false, Bool.not_true, Bool.not_false, Bool.and_true, Bool.and_false, Bool.true_and, Bool.false_and, Bool.or_true, Bool.or_false, Bool.true_or, Bool.false_or])
 refine rSz [(4, xb false)] H3 (zA 1 (qL 3 0 (.one (vi x.1)) (On.at hs4 0 rfl)) (zA 3 (qL 3 0 (.one (vi y.1)) (On.at hs4 1 rfl)) (zL 4 (qlssF H3 x.1 y.1)))) ?_
 refine wE ?_
 refine ⟨Or.inr rfl, [.one (vb false)], (by kernel_rfl), ?_⟩
 have g0 : decide (IEq x.1 0) = false := decide_eq_false (by omega)
 have g1 : decide (IEq y.1 0) = false := decide_eq_false (by omega)
 have g2 : decide (ILt x.1 y.1) = false := decide_eq_false (by omega)
 exact congrArg (fun z => some [Y.one (vb z)]) (show false = aheadB x y by unfold aheadB isZ; simp only [g0, g1, g2, if_true, if_false, Bool.false_eq_true, decide_true, decide_false, Bool.not_true, Bool.not_false, Bool.and_true, Bool.and_false, Bool.true_and, Bool.false_and, Bool.or_true, Bool.or_false, Bool.true_or, Bool.false_or])
end Go.Proofs.Ytjhgjbagmkiibaa.E
end
section
namespace Go.Proofs.Ytjhgjbagmkiibaa.E
open Go.Lg
set_option linter.unusedVariables false
set_option maxRecDepth 100000
set_option maxHeartbeats 8000000
set_option linter.unusedSimpArgs false
def dlks (l : List TT5.T) (a : PD.T) : List PD.T := dlk1 l a ++ dlk2 l a
theorem own_live {s : Sh} {cs : List HP} {H : HH} {c : C} {l : List s.T} (hs : On cs H) (j : Nat) (hj : cs[j]? = some (ownP s c l)) : c.live = true := items_live (own_items' hs j hj).1 j (own_items' hs j hj).2
theorem filt_len {α : Type} (p : α → Bool) (l : List α) {i : Int} (h0 : 0 ≤ i) : (((l.take i.toNat).filter p).length : Int) ≤ i := by
  have h1 := List.length_filter_le p (l.take i.toNat)
  have h2 := List.length_take_le i.toNat l
  omega
theorem dlk1_len (l : List TT5.T) (a : PD.T) {i : Int} (h0 : 0 ≤ i) : ((dlk1 (l.take i.toNat) a).length : Int) ≤ i := by
  unfold dlk1
  rw [eo_]
  exact filt_len _ l h0
theorem dlk2_len (l : List TT5.T) (a : PD.T) {i : Int} (h0 : 0 ≤ i) : ((dlk2 (l.take i.toNat) a).length : Int) ≤ i := by
  unfold dlk2
  rw [eo_]
  exact filt_len _ l h0
theorem dwat_len (l : List TT5.T) (a : PD.T) {i : Int} (h0 : 0 ≤ i) : ((dwat (l.take i.toNat) a).length : Int) ≤ i := filt_len _ l h0
theorem app_yes {α : Type} {a b c : List α} {x : α} (h : b ++ [x] = c) : (a ++ b) ++ [x] = a ++ c := by rw [List.append_assoc, h]
theorem rwat_ok (rb rn rp : Bool) (l : List TT5.T) (hl : (l.length : Int) ≤ 1000000000) (a : PD.T)  : ∃ n : Bool, ∃ p : Bool, PureC pg an 44 [.agg [vb true, sv TT5 rb rn rp l], .agg [vi a.1, vi a.2.1]] [.one (sv TT5 false n p (dwat l a))] := by
 refine pE2 (rOF Try.func44 rfl ?_)
 obtain ⟨n1, hn1⟩ := lX []
 obtain ⟨n2, hn2⟩ := lX ([] ++ [.obj [vb true, sv TT5 rb rn rp l]])
 refine rGz [(2, yp n1), (3, yp n2)] (On.new' hn2 (.obj [vi a.1, vi a.2.1]) (On.new' hn1 (.obj [vb true, sv TT5 rb rn rp l]) (On.nil []))) (zA 0 (qB 48 [vb true, sv TT5 rb rn rp l] hn1) (zL 1 (qB 24 [vi a.1, vi a.2.1] hn2))) fun H3 hs4 => ?_
 refine rs0 [(2, yp n1), (3, yp n2), (5, .y (.one (nilC)))] ?_
 refine wS ?_
 refine rs0 [(2, yp n1), (3, yp n2), (5, .y (.one (nilC))), (6, xi 0)] ?_
 refine wB ?_
 have hs5 : On [pts n1 (.obj [vb true, sv TT5 rb rn rp l]), pts n2 (.obj [vi a.1, vi a.2.1]), ownP TT5 (nilC) (dwat (l.take (0 : Int).toNat) a)] H3 := sH hs4 [] [0, 1] (fun _ _ => by rw [show (dwat (l.take (0 : Int).toNat) a) = ([] : List TT5.T) from by simp [dlk1, dlk2, dwat, dlks]]; exact .inl ⟨rfl, rfl⟩)
 refine Wp.loop (T := HH × Int × C) (fun t => match t with | (H7, i, cvi) => (((l.length : Int) - i).toNat : Nat)) (fun t => match t with | (H7, i, cvi) => ([(2, yp n1), (3, yp n2), (5, .y (.one (cvi))), (6, xi i)] : Env)) (fun t => match t with | (H7, i, cvi) => (H7 : HH))
   (fun t => match t with | (H7, i, cvi) => (On [pts n1 (.obj [vb true, sv TT5 rb rn rp l]), pts n2 (.obj [vi a.1, vi a.2.1]), ownP TT5 cvi (dwat (l.take (i : Int).toNat) a)] H7 ∧ (0 ≤ i) ∧ (i ≤ (l.length : Int)) ∧ (((dwat (l.take (i : Int).toNat) a).length : Int) ≤ i) : Prop)) (H3, 0, (nilC)) (by kernel_rfl) (⟨(On.pick [0, 1, 2] [] (by kernel_rfl) hs5), by omega, by omega, dwat_len _ _ (Int.le_refl 0)⟩) ?_
 rintro ⟨H7, i, cvi⟩ ⟨hs8, hi1, hi2, hi3⟩
 show Wp _ _ _ _ [(2, yp n1), (3, yp n2), (5, .y (.one (cvi))), (6, xi i)] H7 _
 refine wS ?_
 rcases ilt (i) ((l.length : Int)) with c9 | c9
 ·
  refine rSz [(2, yp n1), (3, yp n2), (5, .y (.one (cvi))), (6, xi i), (11, xb true)] H7 (zA 2 (qL 35 1 (.one (sv TT5 rb rn rp l)) (On.at hs8 0 rfl)) (zL 4 (qlssT H7 i (l.length : Int)))) ?_
  refine wTk ?_
  refine wS (wB ?_)
  obtain ⟨x10, hx10⟩ : ∃ x, l[(i : Int).toNat]? = some x := get_of (by omega)
  rcases ilt (0) (x10.1) with c11 | c11
  ·
   rcases Bool.eq_false_or_eq_true ((eqb PD x10.2.2.1 a)) with c12 | c12
   ·
    refine rSz [(2, yp n1), (3, yp n2), (5, .y (.one (cvi))), (6, xi i), (30, xb true)] H7 (zA 1 (qL 35 1 (.one (sv TT5 rb rn rp l)) (On.at hs8 0 rfl)) (zA 3 (Jb (H := H7) (s := TT5) (b := rb) (nil := rn) (capd := rp) (t := 35) (el := 41) (i := i) Try.underlying35 (by kernel_rfl) (by kernel_rfl) (by omega) hx10) (zA 6 (qgtrT H7 x10.1 0) (zA 9 (qL 35 1 (.one (sv TT5 rb rn rp l)) (On.at hs8 0 rfl)) (zA 11 (Jb (H := H7) (s := TT5) (b := rb) (nil := rn) (capd := rp) (t := 35) (el := 41) (i := i) Try.underlying35 (by kernel_rfl) (by kernel_rfl) (by omega) hx10) (zA 14 (qL 24 0 (.agg [vi a.1, vi a.2.1]) (On.at hs8 1 rfl)) (zL 15 (Jh (H := H7) (s := PD) (t := 24) (u := 24) (ty := 0) (x := x10.2.2.1) (y := a) (r := true) (by kernel_rfl) c12)))))))) ?_
    refine wTa ?_
    obtain ⟨cv13, H14, ho15, hs16⟩ := or_append_own (P := pg) (A := an) (s := TT5) (t := 35) (u := 35) (el := 41) (by_ := 40) (z := [vi 0, vi 0, vi 0, vi 0, vi 0]) (ty := 0) (y := .sl false false true [vi x10.1, vi x10.2.1.1, vi x10.2.1.2.1, vi x10.2.2.1.1, vi x10.2.2.1.2.1] 1) (lm := ([x10])) (m := 1) hs8 2 rfl ((slCells_slO (H := H7) (s := TT5) (b := false) (nil := false) (capd := true) (l := [x10]) (n := 1) (by first | rfl | omega | (simp only [ek_]; omega) | (simp; done) | (simp; omega)))) (by kernel_rfl) (by kernel_rfl) (by kernel_rfl) (by kernel_rfl) (by kernel_rfl) (by kernel_rfl) (by kernel_rfl) (by first | rfl | omega | (simp only [ek_]; omega) | (simp; done) | (simp; omega)) (by omega) (by omega)
    have hs16l : (((dwat (l.take (i : Int).toNat) a) ++ ([x10])).length : Int) = (((dwat (l.take (i : Int).toNat) a).length : Int) + 1) := by { first | omega | (simp only [ej_]; omega) | (simp; done) | (simp; omega) }
    refine rHz [(2, yp n1), (3, yp n2), (5, .y (.one (cv13))), (6, xi i)] hs16 (zA 2 (qL 35 1 (.one (sv TT5 rb rn rp l)) (On.at hs8 0 rfl)) (zA 4 (Jb (H := H7) (s := TT5) (b := rb) (nil := rn) (capd := rp) (t := 35) (el := 41) (i := i) Try.underlying35 (by kernel_rfl) (by kernel_rfl) (by omega) hx10) (zL 7 ho15))) fun H17 hs18 => ?_
    refine wK ?_
    refine rRz [(2, yp n1), (3, yp n2), (5, .y (.one (cv13))), (6, xi (i + 1))] H17 (zL 1 (qoAdd H17 i 1 (i + 1))) ?_
    exact ⟨(H17, (i + 1), cv13), by kernel_rfl, (⟨(On.pick [0, 1, 2] [] (by kernel_rfl) (On.mono (A' := ownP TT5 cv13 (dwat (l.take (i + 1 : Int).toNat) a)) 2 rfl (fun _ x => by rw [← (show ((dwat (l.take (i : Int).toNat) a) ++ ([x10])) = (dwat (l.take (i + 1 : Int).toNat) a) from dwat_yes (by omega) hx10 (by omega) c12)]; exact x) hs18)), by omega, by omega, dwat_len _ _ (by omega)⟩), (by show (_ : Nat) < _; simp only []; omega)⟩
   refine rSz [(2, yp n1), (3, yp n2), (5, .y (.one (cvi))), (6, xi i), (30, xb false)] H7 (zA 1 (qL 35 1 (.one (sv TT5 rb rn rp l)) (On.at hs8 0 rfl)) (zA 3 (Jb (H := H7) (s := TT5) (b := rb) (nil := rn) (capd := rp) (t := 35) (el := 41) (i := i) Try.underlying35 (by kernel_rfl) (by kernel_rfl) (by omega) hx10) (zA 6 (qgtrT H7 x10.1 0) (zA 9 (qL 35 1 (.one (sv TT5 rb rn rp l)) (On.at hs8 0 rfl)) (zA 11 (Jb (H := H7) (s := TT5) (b := rb) (nil := rn) (capd := rp) (t := 35) (el := 41) (i := i) Try.underlying35 (by kernel_rfl) (by kernel_rfl) (by omega) hx10) (zA 14 (qL 24 0 (.agg [vi a.1, vi a.2.1]) (On.at hs8 1 rfl)) (zL 15 (Jh (H := H7) (s := PD) (t := 24) (u := 24) (ty := 0) (x := x10.2.2.1) (y := a) (r := false) (by kernel_rfl) c12)))))))) ?_
   refine wFk ?_
   refine rRz [(2, yp n1), (3, yp n2), (5, .y (.one (cvi))), (6, xi (i + 1))] H7 (zL 1 (qoAdd H7 i 1 (i + 1))) ?_
   exact ⟨(H7, (i + 1), cvi), by kernel_rfl, (⟨(On.pick [0, 1, 2] [] (by kernel_rfl) (On.mono (A' := ownP TT5 cvi (dwat (l.take (i + 1 : Int).toNat) a)) 2 rfl (fun _ x => by rw [← (show (dwat (l.take (i : Int).toNat) a) = (dwat (l.take (i + 1 : Int).toNat) a) from dwat_no (by omega) hx10 (.inr c12))]; exact x) hs8)), by omega, by omega, dwat_len _ _ (by omega)⟩), (by show (_ : Nat) < _; simp only []; omega)⟩
  refine rSz [(2, yp n1), (3, yp n2), (5, .y (.one (cvi))), (6, xi i), (30, xb false)] H7 (zA 1 (qL 35 1 (.one (sv TT5 rb rn rp l)) (On.at hs8 0 rfl)) (zA 3 (Jb (H := H7) (s := TT5) (b := rb) (nil := rn) (capd := rp) (t := 35) (el := 41) (i := i) Try.underlying35 (by kernel_rfl) (by kernel_rfl) (by omega) hx10) (zL 6 (qgtrF H7 x10.1 0)))) ?_
  refine wFk ?_
  refine rRz [(2, yp n1), (3, yp n2), (5, .y (.one (cvi))), (6, xi (i + 1))] H7 (zL 1 (qoAdd H7 i 1 (i + 1))) ?_
  exact ⟨(H7, (i + 1), cvi), by kernel_rfl, (⟨(On.pick [0, 1, 2] [] (by kernel_rfl) (On.mono (A' := ownP TT5 cvi (dwat (l.take (i + 1 : Int).toNat) a)) 2 rfl (fun _ x => by rw [← (show (dwat (l.take (i : Int).toNat) a) = (dwat (l.take (i + 1 : Int).toNat) a) from dwat_no (by omega) hx10 (.inl (by omega)))]; exact x) hs8)), by omega, by omega, dwat_len _ _ (by omega)⟩), (by show (_ : Nat) < _; simp only []; omega)⟩
 refine rSz [(2, yp n1), (3, yp n2), (5, .y (.one (cvi))), (6, xi i), (11, xb false)] H7 (zA 2 (qL 35 1 (.one (sv TT5 rb rn rp l)) (On.at hs8 0 rfl)) (zL 4 (qlssF H7 i (l.length : Int)))) ?_
 refine wFa ?_
 refine wX ?_
 refine Eq.mpr (if_pos rfl) ?_
 refine rs0 [(4, .y (.one (cvi)))] ?_
 refine wE ?_
 refine ⟨Or.inr rfl, [.one (cvi)], (by kernel_rfl), ?_⟩
 obtain ⟨fn19, fp20, hf21⟩ := own_back (On.mono (A' := ownP TT5 cvi (dwat l a)) 2 rfl (fun _ x => by rw [← (show (dwat (l.take (i : Int).toNat) a) = (dwat l a) from by rw [take_all (by omega)])]; exact x) hs8) 2 rfl
 exact ⟨fn19, fp20, (back_cons (back_one hf21) rfl)⟩
theorem dlkj_len (l : List TT5.T) (a : PD.T) {j : Int} (h0 : 0 ≤ j) : ((dlk1 l a ++ dlk2 (l.take j.toNat) a).length : Int) ≤ (l.length : Int) + j := by
  have h1 := dlk1_len l a (i := (l.length : Int)) (Int.natCast_nonneg _)
  rw [take_all (Int.le_refl _)] at h1
  have h2 := dlk2_len l a h0
  rw [ej_]
  omega
theorem rlinks_ok (rb rn rp : Bool) (l : List TT5.T) (hl : (l.length : Int) ≤ 1000000000) (a : PD.T)  : ∃ n : Bool, ∃ p : Bool, PureC pg an 43 [.agg [vb true, sv TT5 rb rn rp l], .agg [vi a.1, vi a.2.1]] [.one (sv PD false n p (dlks l a))] := by
 refine pE2 (rOF Try.func43 rfl ?_)
 obtain ⟨n1, hn1⟩ := lX []
 obtain ⟨n2, hn2⟩ := lX ([] ++ [.obj [vb true, sv TT5 rb rn rp l]])
 refine rGz [(2, yp n1), (3, yp n2)] (On.new' hn2 (.obj [vi a.1, vi a.2.1]) (On.new' hn1 (.obj [vb true, sv TT5 rb rn rp l]) (On.nil []))) (zA 0 (qB 48 [vb true, sv TT5 rb rn rp l] hn1) (zL 1 (qB 24 [vi a.1, vi a.2.1] hn2))) fun H3 hs4 => ?_
 refine rs0 [(2, yp n1), (3, yp n2), (5, .y (.one (nilC)))] ?_
 refine wS ?_
 refine rs0 [(2, yp n1), (3, yp n2), (5, .y (.one (nilC))), (6, xi 0)] ?_
 refine wB ?_
 have hs5 : On [pts n1 (.obj [vb true, sv TT5 rb rn rp l]), pts n2 (.obj [vi a.1, vi a.2.1]), ownP PD (nilC) (dlk1 (l.take (0 : Int).toNat) a)] H3 := sH hs4 [] [0, 1] (fun _ _ => by rw [show (dlk1 (l.take (0 : Int).toNat) a) = ([] : List PD.T) from by simp [dlk1, dlk2, dwat, dlks]]; exact .inl ⟨rfl, rfl⟩)
 refine Wp.loop (T := HH × Int × C) (fun t => match t with | (H7, i, cvi) => (((l.length : Int) - i).toNat : Nat)) (fun t => match t with | (H7, i, cvi) => ([(2, yp n1), (3, yp n2), (5, .y (.one (cvi))), (6, xi i)] : Env)) (fun t => match t with | (H7, i, cvi) => (H7 : HH))
   (fun t => match t with | (H7, i, cvi) => (On [pts n1 (.obj [vb true, sv TT5 rb rn rp l]), pts n2 (.obj [vi a.1, vi a.2.1]), ownP PD cvi (dlk1 (l.take (i : Int).toNat) a)] H7 ∧ (0 ≤ i) ∧ (i ≤ (l.length : Int)) ∧ (((dlk1 (l.take (i : Int).toNat) a).length : Int) ≤ i) : Prop)) (H3, 0, (nilC)) (by kernel_rfl) (⟨(On.pick [0, 1, 2] [] (by kernel_rfl) hs5), by omega, by omega, dlk1_len _ _ (Int.le_refl 0)⟩) ?_
 rintro ⟨H7, i, cvi⟩ ⟨hs8, hi1, hi2, hi3⟩
 show Wp _ _ _ _ [(2, yp n1), (3, yp n2), (5, .y (.one (cvi))), (6, xi i)] H7 _
 refine wS ?_
 rcases ilt (i) ((l.length : Int)) with c9 | c9
 ·
  refine rSz [(2, yp n1), (3, yp n2), (5, .y (.one (cvi))), (6, xi i), (12, xb true)] H7 (zA 2 (qL 35 1 (.one (sv TT5 rb rn rp l)) (On.at hs8 0 rfl)) (zL 4 (qlssT H7 i (l.length : Int)))) ?_
  refine wTk ?_
  refine wS (wB ?_)
  obtain ⟨x10, hx10⟩ : ∃ x, l[(i : Int).toNat]? = some x := get_of (by omega)
  rcases ieq (x10.1) (0) with c11 | c11
  ·
   rcases Bool.eq_false_or_eq_true ((eqb PD x10.2.2.1 a)) with c12 | c12
   ·
    refine rSz [(2, yp n1), (3, yp n2), (5, .y (.one (cvi))), (6, xi i), (31, xb true)] H7 (zA 1 (qL 35 1 (.one (sv TT5 rb rn rp l)) (On.at hs8 0 rfl)) (zA 3 (Jb (H := H7) (s := TT5) (b := rb) (nil := rn) (capd := rp) (t := 35) (el := 41) (i := i) Try.underlying35 (by kernel_rfl) (by kernel_rfl) (by omega) hx10) (zA 6 (Ja (vals := [xi x10.1, xi 0]) (H := H7) (op := .binOp .eql 3 (.tmp 0) (.tmp 1) 3) (ty := 0) (r := xb (beqI (x10.1) (0))) (v := xb true) (by kernel_rfl) (congrArg (fun z => xb z) (beq_t (by omega)))) (zA 9 (qL 35 1 (.one (sv TT5 rb rn rp l)) (On.at hs8 0 rfl)) (zA 11 (Jb (H := H7) (s := TT5) (b := rb) (nil := rn) (capd := rp) (t := 35) (el := 41) (i := i) Try.underlying35 (by kernel_rfl) (by kernel_rfl) (by omega) hx10) (zA 14 (qL 24 0 (.agg [vi a.1, vi a.2.1]) (On.at hs8 1 rfl)) (zL 15 (Jh (H := H7) (s := PD) (t := 24) (u := 24) (ty := 0) (x := x10.2.2.1) (y := a) (r := true) (by kernel_rfl) c12)))))))) ?_
    refine wTa ?_
    obtain ⟨cv13, H14, ho15, hs16⟩ := or_append_own (P := pg) (A := an) (s := PD) (t := 32) (u := 32) (el := 24) (by_ := 16) (z := [vi 0, vi 0]) (ty := 0) (y := .sl false false true [vi x10.2.1.1, vi x10.2.1.2.1] 1) (lm := ([x10.2.1])) (m := 1) hs8 2 rfl ((slCells_slO (H := H7) (s := PD) (b := false) (nil := false) (capd := true) (l := [x10.2.1]) (n := 1) (by first | rfl | omega | (simp only [ek_]; omega) | (simp; done) | (simp; omega)))) (by kernel_rfl) (by kernel_rfl) (by kernel_rfl) (by kernel_rfl) (by kernel_rfl) (by kernel_rfl) (by kernel_rfl) (by first | rfl | omega | (simp only [ek_]; omega) | (simp; done) | (simp; omega)) (by omega) (by omega)
    have hs16l : (((dlk1 (l.take (i : Int).toNat) a) ++ ([x10.2.1])).length : Int) = (((dlk1 (l.take (i : Int).toNat) a).length : Int) + 1) := by { first | omega | (simp only [ej_]; omega) | (simp; done) | (simp; omega) }
    refine rHz [(2, yp n1), (3, yp n2), (5, .y (.one (cv13))), (6, xi i)] hs16 (zA 2 (qL 35 1 (.one (sv TT5 rb rn rp l)) (On.at hs8 0 rfl)) (zA 4 (Jb (H := H7) (s := TT5) (b := rb) (nil := rn) (capd := rp) (t := 35) (el := 41) (i := i) Try.underlying35 (by kernel_rfl) (by kernel_rfl) (by omega) hx10) (zL 8 ho15))) fun H17 hs18 => ?_
    refine wK ?_
    refine rRz [(2, yp n1), (3, yp n2), (5, .y (.one (cv13))), (6, xi (i + 1))] H17 (zL 1 (qoAdd H17 i 1 (i + 1))) ?_
    exact ⟨(H17, (i + 1), cv13), by kernel_rfl, (⟨(On.pick [0, 1, 2] [] (by kernel_rfl) (On.mono (A' := ownP PD cv13 (dlk1 (l.take (i + 1 : Int).toNat) a)) 2 rfl (fun _ x => by rw [← (show ((dlk1 (l.take (i : Int).toNat) a) ++ ([x10.2.1])) = (dlk1 (l.take (i + 1 : Int).toNat) a) from dlk1_yes (by omega) hx10 (by omega) c12)]; exact x) hs18)), by omega, by omega, dlk1_len _ _ (by omega)⟩), (by show (_ : Nat) < _; simp only []; omega)⟩
   refine rSz [(2, yp n1), (3, yp n2), (5, .y (.one (cvi))), (6, xi i), (31, xb false)] H7 (zA 1 (qL 35 1 (.one (sv TT5 rb rn rp l)) (On.at hs8 0 rfl)) (zA 3 (Jb (H := H7) (s := TT5) (b := rb) (nil := rn) (capd := rp) (t := 35) (el := 41) (i := i) Try.underlying35 (by kernel_rfl) (by kernel_rfl) (by omega) hx10) (zA 6 (Ja (vals := [xi x10.1, xi 0]) (H := H7) (op := .binOp .eql 3 (.tmp 0) (.tmp 1) 3) (ty := 0) (r := xb (beqI (x10.1) (0))) (v := xb true) (by kernel_rfl) (congrArg (fun z => xb z) (beq_t (by omega)))) (zA 9 (qL 35 1 (.one (sv TT5 rb rn rp l)) (On.at hs8 0 rfl)) (zA 11 (Jb (H := H7) (s := TT5) (b := rb) (nil := rn) (capd := rp) (t := 35) (el := 41) (i := i) Try.underlying35 (by kernel_rfl) (by kernel_rfl) (by omega) hx10) (zA 14 (qL 24 0 (.agg [vi a.1, vi a.2.1]) (On.at hs8 1 rfl)) (zL 15 (Jh (H := H7) (s := PD) (t := 24) (u := 24) (ty := 0) (x := x10.2.2.1) (y := a) (r := false) (by kernel_rfl) c12)))))))) ?_
   refine wFk ?_
   refine rRz [(2, yp n1), (3, yp n2), (5, .y (.one (cvi))), (6, xi (i + 1))] H7 (zL 1 (qoAdd H7 i 1 (i + 1))) ?_
   exact ⟨(H7, (i + 1), cvi), by kernel_rfl, (⟨(On.pick [0, 1, 2] [] (by kernel_rfl) (On.mono (A' := ownP PD cvi (dlk1 (l.take (i + 1 : Int).toNat) a)) 2 rfl (fun _ x => by rw [← (show (dlk1 (l.take (i : Int).toNat) a) = (dlk1 (l.take (i + 1 : Int).toNat) a) from dlk1_no (by omega) hx10 (.inr c12))]; exact x) hs8)), by omega, by omega, dlk1_len _ _ (by omega)⟩), (by show (_ : Nat) < _; simp only []; omega)⟩
  refine rSz [(2, yp n1), (3, yp n2), (5, .y (.one (cvi))), (6, xi i), (31, xb false)] H7 (zA 1 (qL 35 1 (.one (sv TT5 rb rn rp l)) (On.at hs8 0 rfl)) (zA 3 (Jb (H := H7) (s := TT5) (b := rb) (nil := rn) (capd := rp) (t := 35) (el := 41) (i := i) Try.underlying35 (by kernel_rfl) (by kernel_rfl) (by omega) hx10) (zL 6 (Ja (vals := [xi x10.1, xi 0]) (H := H7) (op := .binOp .eql 3 (.tmp 0) (.tmp 1) 3) (ty := 0) (r := xb (beqI (x10.1) (0))) (v := xb false) (by kernel_rfl) (congrArg (fun z => xb z) (beq_f (by omega))))))) ?_
  refine wFk ?_
  refine rRz [(2, yp n1), (3, yp n2), (5, .y (.one (cvi))), (6, xi (i + 1))] H7 (zL 1 (qoAdd H7 i 1 (i + 1))) ?_
  exact ⟨(H7, (i + 1), cvi), by kernel_rfl, (⟨(On.pick [0, 1, 2] [] (by kernel_rfl) (On.mono (A' := ownP PD cvi (dlk1 (l.take (i + 1 : Int).toNat) a)) 2 rfl (fun _ x => by rw [← (show (dlk1 (l.take (i : Int).toNat) a) = (dlk1 (l.take (i + 1 : Int).toNat) a) from dlk1_no (by omega) hx10 (.inl (by omega)))]; exact x) hs8)), by omega, by omega, dlk1_len _ _ (by omega)⟩), (by show (_ : Nat) < _; simp only []; omega)⟩
 refine rSz [(2, yp n1), (3, yp n2), (5, .y (.one (cvi))), (6, xi i), (12, xb false)] H7 (zA 2 (qL 35 1 (.one (sv TT5 rb rn rp l)) (On.at hs8 0 rfl)) (zL 4 (qlssF H7 i (l.length : Int)))) ?_
 refine wFa ?_
 refine wX ?_
 refine Eq.mpr (if_pos rfl) ?_
 refine wS ?_
 refine rs0 [(2, yp n1), (3, yp n2), (5, .y (.one (cvi))), (7, xi 0)] ?_
 refine wB ?_
 refine Wp.loop (T := HH × Int × C) (fun t => match t with | (H20, j, cvj) => (((l.length : Int) - j).toNat : Nat)) (fun t => match t with | (H20, j, cvj) => ([(2, yp n1), (3, yp n2), (5, .y (.one (cvj))), (7, xi j)] : Env)) (fun t => match t with | (H20, j, cvj) => (H20 : HH))
   (fun t => match t with | (H20, j, cvj) => (On [pts n1 (.obj [vb true, sv TT5 rb rn rp l]), pts n2 (.obj [vi a.1, vi a.2.1]), ownP PD cvj (dlk1 l a ++ dlk2 (l.take (j : Int).toNat) a)] H20 ∧ (0 ≤ j) ∧ (j ≤ (l.length : Int)) ∧ (((dlk1 l a ++ dlk2 (l.take (j : Int).toNat) a).length : Int) ≤ (l.length : Int) + j) : Prop)) (H7, 0, cvi) (by kernel_rfl) (⟨(On.pick [0, 1, 2] [] (by kernel_rfl) (On.mono (A' := ownP PD cvi (dlk1 l a ++ dlk2 (l.take (0 : Int).toNat) a)) 2 rfl (fun _ x => by rw [← (show (dlk1 (l.take (i : Int).toNat) a) = (dlk1 l a ++ dlk2 (l.take (0 : Int).toNat) a) from by rw [take_all (by omega)]; simp [dlk2])]; exact x) hs8)), by omega, by omega, dlkj_len _ _ (Int.le_refl 0)⟩) ?_
 rintro ⟨H20, j, cvj⟩ ⟨hs21, hj1, hj2, hj3⟩
 show Wp _ _ _ _ [(2, yp n1), (3, yp n2), (5, .y (.one (cvj))), (7, xi j)] H20 _
 refine wS ?_
 rcases ilt (j) ((l.length : Int)) with c22 | c22
 ·
  refine rSz [(2, yp n1), (3, yp n2), (5, .y (.one (cvj))), (7, xi j), (45, xb true)] H20 (zA 2 (qL 35 1 (.one (sv TT5 rb rn rp l)) (On.at hs21 0 rfl)) (zL 4 (qlssT H20 j (l.length : Int)))) ?_
  refine wTk ?_
  refine wS (wB ?_)
  obtain ⟨x23, hx23⟩ : ∃ x, l[(j : Int).toNat]? = some x := get_of (by omega)
  rcases ieq (x23.1) (0) with c24 | c24
  ·
   rcases Bool.eq_false_or_eq_true ((eqb PD x23.2.1 a)) with c25 | c25
   ·
    refine rSz [(2, yp n1), (3, yp n2), (5, .y (.one (cvj))), (7, xi j), (64, xb true)] H20 (zA 1 (qL 35 1 (.one (sv TT5 rb rn rp l)) (On.at hs21 0 rfl)) (zA 3 (Jb (H := H20) (s := TT5) (b := rb) (nil := rn) (capd := rp) (t := 35) (el := 41) (i := j) Try.underlying35 (by kernel_rfl) (by kernel_rfl) (by omega) hx23) (zA 6 (Ja (vals := [xi x23.1, xi 0]) (H := H20) (op := .binOp .eql 3 (.tmp 0) (.tmp 1) 3) (ty := 0) (r := xb (beqI (x23.1) (0))) (v := xb true) (by kernel_rfl) (congrArg (fun z => xb z) (beq_t (by omega)))) (zA 9 (qL 35 1 (.one (sv TT5 rb rn rp l)) (On.at hs21 0 rfl)) (zA 11 (Jb (H := H20) (s := TT5) (b := rb) (nil := rn) (capd := rp) (t := 35) (el := 41) (i := j) Try.underlying35 (by kernel_rfl) (by kernel_rfl) (by omega) hx23) (zA 14 (qL 24 0 (.agg [vi a.1, vi a.2.1]) (On.at hs21 1 rfl)) (zL 15 (Jh (H := H20) (s := PD) (t := 24) (u := 24) (ty := 0) (x := x23.2.1) (y := a) (r := true) (by kernel_rfl) c25)))))))) ?_
    refine wTa ?_
    obtain ⟨cv26, H27, ho28, hs29⟩ := or_append_own (P := pg) (A := an) (s := PD) (t := 32) (u := 32) (el := 24) (by_ := 16) (z := [vi 0, vi 0]) (ty := 0) (y := .sl false false true [vi x23.2.2.1.1, vi x23.2.2.1.2.1] 1) (lm := ([x23.2.2.1])) (m := 1) hs21 2 rfl ((slCells_slO (H := H20) (s := PD) (b := false) (nil := false) (capd := true) (l := [x23.2.2.1]) (n := 1) (by first | rfl | omega | (simp only [ek_]; omega) | (simp; done) | (simp; omega)))) (by kernel_rfl) (by kernel_rfl) (by kernel_rfl) (by kernel_rfl) (by kernel_rfl) (by kernel_rfl) (by kernel_rfl) (by first | rfl | omega | (simp only [ek_]; omega) | (simp; done) | (simp; omega)) (by omega) (by omega)
    have hs29l : (((dlk1 l a ++ dlk2 (l.take (j : Int).toNat) a) ++ ([x23.2.2.1])).length : Int) = (((dlk1 l a ++ dlk2 (l.take (j : Int).toNat) a).length : Int) + 1) := by { first | omega | (simp only [ej_]; omega) | (simp; done) | (simp; omega) }
    refine rHz [(2, yp n1), (3, yp n2), (5, .y (.one (cv26))), (7, xi j)] hs29 (zA 2 (qL 35 1 (.one (sv TT5 rb rn rp l)) (On.at hs21 0 rfl)) (zA 4 (Jb (H := H20) (s := TT5) (b := rb) (nil := rn) (capd := rp) (t := 35) (el := 41) (i := j) Try.underlying35 (by kernel_rfl) (by kernel_rfl) (by omega) hx23) (zL 8 ho28))) fun H30 hs31 => ?_
    refine wK ?_
    refine rRz [(2, yp n1), (3, yp n2), (5, .y (.one (cv26))), (7, xi (j + 1))] H30 (zL 1 (qoAdd H30 j 1 (j + 1))) ?_
    exact ⟨(H30, (j + 1), cv26), by kernel_rfl, (⟨(On.pick [0, 1, 2] [] (by kernel_rfl) (On.mono (A' := ownP PD cv26 (dlk1 l a ++ dlk2 (l.take (j + 1 : Int).toNat) a)) 2 rfl (fun _ x => by rw [← (show ((dlk1 l a ++ dlk2 (l.take (j : Int).toNat) a) ++ ([x23.2.2.1])) = (dlk1 l a ++ dlk2 (l.take (j + 1 : Int).toNat) a) from app_yes (dlk2_yes (by omega) hx23 (by omega) c25))]; exact x) hs31)), by omega, by omega, dlkj_len _ _ (by omega)⟩), (by show (_ : Nat) < _; simp only []; omega)⟩
   refine rSz [(2, yp n1), (3, yp n2), (5, .y (.one (cvj))), (7, xi j), (64, xb false)] H20 (zA 1 (qL 35 1 (.one (sv TT5 rb rn rp l)) (On.at hs21 0 rfl)) (zA 3 (Jb (H := H20) (s := TT5) (b := rb) (nil := rn) (capd := rp) (t := 35) (el := 41) (i := j) Try.underlying35 (by kernel_rfl) (by kernel_rfl) (by omega) hx23) (zA 6 (Ja (vals := [xi x23.1, xi 0]) (H := H20) (op := .binOp .eql 3 (.tmp 0) (.tmp 1) 3) (ty := 0) (r := xb (beqI (x23.1) (0))) (v := xb true) (by kernel_rfl) (congrArg (fun z => xb z) (beq_t (by omega)))) (zA 9 (qL 35 1 (.one (sv TT5 rb rn rp l)) (On.at hs21 0 rfl)) (zA 11 (Jb (H := H20) (s := TT5) (b := rb) (nil := rn) (capd := rp) (t := 35) (el := 41) (i := j) Try.underlying35 (by kernel_rfl) (by kernel_rfl) (by omega) hx23) (zA 14 (qL 24 0 (.agg [vi a.1, vi a.2.1]) (On.at hs21 1 rfl)) (zL 15 (Jh (H := H20) (s := PD) (t := 24) (u := 24) (ty := 0) (x := x23.2.1) (y := a) (r := false) (by kernel_rfl) c25)))))))) ?_
   refine wFk ?_
   refine rRz [(2, yp n1), (3, yp n2), (5, .y (.one (cvj))), (7, xi (j + 1))] H20 (zL 1 (qoAdd H20 j 1 (j + 1))) ?_
   exact ⟨(H20, (j + 1), cvj), by kernel_rfl, (⟨(On.pick [0, 1, 2] [] (by kernel_rfl) (On.mono (A' := ownP PD cvj (dlk1 l a ++ dlk2 (l.take (j + 1 : Int).toNat) a)) 2 rfl (fun _ x => by rw [← (show (dlk1 l a ++ dlk2 (l.take (j : Int).toNat) a) = (dlk1 l a ++ dlk2 (l.take (j + 1 : Int).toNat) a) from congrArg (dlk1 l a ++ ·) (dlk2_no (by omega) hx23 (.inr c25)))]; exact x) hs21)), by omega, by omega, dlkj_len _ _ (by omega)⟩), (by show (_ : Nat) < _; simp only []; omega)⟩
  refine rSz [(2, yp n1), (3, yp n2), (5, .y (.one (cvj))), (7, xi j), (64, xb false)] H20 (zA 1 (qL 35 1 (.one (sv TT5 rb rn rp l)) (On.at hs21 0 rfl)) (zA 3 (Jb (H := H20) (s := TT5) (b := rb) (nil := rn) (capd := rp) (t := 35) (el := 41) (i := j) Try.underlying35 (by kernel_rfl) (by kernel_rfl) (by omega) hx23) (zL 6 (Ja (vals := [xi x23.1, xi 0]) (H := H20) (op := .binOp .eql 3 (.tmp 0) (.tmp 1) 3) (ty := 0) (r := xb (beqI (x23.1) (0))) (v := xb false) (by kernel_rfl) (congrArg (fun z => xb z) (beq_f (by omega))))))) ?_
  refine wFk ?_
  refine rRz [(2, yp n1), (3, yp n2), (5, .y (.one (cvj))), (7, xi (j + 1))] H20 (zL 1 (qoAdd H20 j 1 (j + 1))) ?_
  exact ⟨(H20, (j + 1), cvj), by kernel_rfl, (⟨(On.pick [0, 1, 2] [] (by kernel_rfl) (On.mono (A' := ownP PD cvj (dlk1 l a ++ dlk2 (l.take (j + 1 : Int).toNat) a)) 2 rfl (fun _ x => by rw [← (show (dlk1 l a ++ dlk2 (l.take (j : Int).toNat) a) = (dlk1 l a ++ dlk2 (l.take (j + 1 : Int).toNat) a) from congrArg (dlk1 l a ++ ·) (dlk2_no (by omega) hx23 (.inl (by omega))))]; exact x) hs21)), by omega, by omega, dlkj_len _ _ (by omega)⟩), (by show (_ : Nat) < _; simp only []; omega)⟩
 refine rSz [(2, yp n1), (3, yp n2), (5, .y (.one (cvj))), (7, xi j), (45, xb false)] H20 (zA 2 (qL 35 1 (.one (sv TT5 rb rn rp l)) (On.at hs21 0 rfl)) (zL 4 (qlssF H20 j (l.length : Int)))) ?_
 refine wFa ?_
 refine wX ?_
 refine Eq.mpr (if_pos rfl) ?_
 refine rs0 [(4, .y (.one (cvj)))] ?_
 refine wE ?_
 refine ⟨Or.inr rfl, [.one (cvj)], (by kernel_rfl), ?_⟩
 obtain ⟨fn32, fp33, hf34⟩ := own_back (On.mono (A' := ownP PD cvj (dlks l a)) 2 rfl (fun _ x => by rw [← (show (dlk1 l a ++ dlk2 (l.take (j : Int).toNat) a) = (dlks l a) from by rw [take_all (by omega)]; rfl)]; exact x) hs21) 2 rfl
 exact ⟨fn32, fp33, (back_cons (back_one hf34) rfl)⟩
end Go.Proofs.Ytjhgjbagmkiibaa.E
end
