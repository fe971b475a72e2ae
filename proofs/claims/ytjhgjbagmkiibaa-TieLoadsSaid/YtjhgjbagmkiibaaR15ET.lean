/-
  Ties: Links, Watchers, Load (of the document). (Printed by sx/r15t.py.)
-/
import Derived.Test.YtjhgjbagmkiibaaR15ES
namespace Go.Proofs.Ytjhgjbagmkiibaa.E
open Go.Lg
set_option linter.unusedVariables false
set_option maxRecDepth 100000
set_option maxHeartbeats 8000000
set_option linter.unusedSimpArgs false
def dlks (l : List TT5.T) (a : PD.T) : List PD.T := dlk1 l a ++ dlk2 l a
theorem own_live {s : Sh} {cs : List HP} {H : Go.Lg.Heap} {c : C} {l : List s.T} (hs : On cs H) (j : Nat) (hj : cs[j]? = some (ownP s c l)) : c.live = true := items_live (own_items' hs j hj).1 j (own_items' hs j hj).2
theorem filt_len {α : Type} (p : α → Bool) (l : List α) {i : Int} (h0 : 0 ≤ i) : (((l.take i.toNat).filter p).length : Int) ≤ i := by
  have h1 := List.length_filter_le p (l.take i.toNat)
  have h2 := List.length_take_le i.toNat l
  omega
theorem dlk1_len (l : List TT5.T) (a : PD.T) {i : Int} (h0 : 0 ≤ i) : ((dlk1 (l.take i.toNat) a).length : Int) ≤ i := by
  unfold dlk1
  rw [List.length_map]
  exact filt_len _ l h0
theorem dlk2_len (l : List TT5.T) (a : PD.T) {i : Int} (h0 : 0 ≤ i) : ((dlk2 (l.take i.toNat) a).length : Int) ≤ i := by
  unfold dlk2
  rw [List.length_map]
  exact filt_len _ l h0
theorem dwat_len (l : List TT5.T) (a : PD.T) {i : Int} (h0 : 0 ≤ i) : ((dwat (l.take i.toNat) a).length : Int) ≤ i := filt_len _ l h0
theorem app_yes {α : Type} {a b c : List α} {x : α} (h : b ++ [x] = c) : (a ++ b) ++ [x] = a ++ c := by rw [List.append_assoc, h]
theorem rwat_ok (rb rn rp : Bool) (l : List TT5.T) (hl : (l.length : Int) ≤ 1000000000) (a : PD.T)  : ∃ n : Bool, ∃ p : Bool, PureC pg an 44 [.agg [vb true, sv TT5 rb rn rp l], .agg [vi a.1, vi a.2.1]] [.one (sv TT5 false n p (dwat l a))] := by
 suffices h : ∃ rs H', Runs pg an 44 [.agg [vb true, sv TT5 rb rn rp l], .agg [vi a.1, vi a.2.1]] [] rs H' ∧ ∃ n : Bool, ∃ p : Bool, rs.mapM (backY H') = some [.one (sv TT5 false n p (dwat l a))] by
  obtain ⟨rs, H', h1, n, p, h2⟩ := h
  exact ⟨n, p, rs, H', h1, h2⟩
 refine Runs.of (fn := Try.f44) Try.func44 rfl (by kernel_rfl) [(0, .y (.agg [vb true, sv TT5 rb rn rp l])), (1, .y (.agg [vi a.1, vi a.2.1]))] (by kernel_rfl) ?_
 obtain ⟨n1, hn1⟩ : ∃ n, n = List.length ([] : Go.Lg.Heap) := ⟨_, rfl⟩
 obtain ⟨n2, hn2⟩ : ∃ n, n = List.length (([] ++ [.obj [vb true, sv TT5 rb rn rp l]]) : Go.Lg.Heap) := ⟨_, rfl⟩
 refine Wp.regionSeq [(0, .y (.one (.ptr n1 0)), ([] ++ [.obj [vb true, sv TT5 rb rn rp l]])), (1, .y (.one (.ptr n2 0)), (([] ++ [.obj [vb true, sv TT5 rb rn rp l]]) ++ [.obj [vi a.1, vi a.2.1]]))] [(2, .y (.one (.ptr n1 0))), (3, .y (.one (.ptr n2 0)))] (([] ++ [.obj [vb true, sv TT5 rb rn rp l]]) ++ [.obj [vi a.1, vi a.2.1]])
   (cast (And.intro (ob_box (P := pg) (A := an) (H := []) (t := 48) (ty := 0) (n := n1) (v := .agg [vb true, sv TT5 rb rn rp l]) (cs := [vb true, sv TT5 rb rn rp l]) hn1 (by kernel_rfl) (by kernel_rfl) (by kernel_rfl)) (And.intro (ob_box (P := pg) (A := an) (H := ([] ++ [.obj [vb true, sv TT5 rb rn rp l]])) (t := 24) (ty := 0) (n := n2) (v := .agg [vi a.1, vi a.2.1]) (cs := [vi a.1, vi a.2.1]) hn2 (by kernel_rfl) (by kernel_rfl) (by kernel_rfl)) trivial)) (by kernel_rfl)) (by kernel_rfl) ?_
 refine Wp.gen (cs := [pts n1 (.obj [vb true, sv TT5 rb rn rp l]), pts n2 (.obj [vi a.1, vi a.2.1])]) (On.new' hn2 (.obj [vi a.1, vi a.2.1]) (On.new' hn1 (.obj [vb true, sv TT5 rb rn rp l]) (On.nil []))) ?_
 intro H3 hs4
 refine Wp.regionSeq [] [(2, .y (.one (.ptr n1 0))), (3, .y (.one (.ptr n2 0))), (5, .y (.one (.sl false true true [] 0)))] H3
   (cast trivial (by kernel_rfl)) (by kernel_rfl) ?_
 refine Wp.seq ?_
 refine Wp.regionSeq [] [(2, .y (.one (.ptr n1 0))), (3, .y (.one (.ptr n2 0))), (5, .y (.one (.sl false true true [] 0))), (6, xi 0)] H3
   (cast trivial (by kernel_rfl)) (by kernel_rfl) ?_
 refine Wp.block ?_
 have hs5 : On [pts n1 (.obj [vb true, sv TT5 rb rn rp l]), pts n2 (.obj [vi a.1, vi a.2.1]), ownP TT5 (.sl false true true [] 0) (dwat (l.take (0 : Int).toNat) a)] H3 := On.shut (cs := [pts n1 (.obj [vb true, sv TT5 rb rn rp l]), pts n2 (.obj [vi a.1, vi a.2.1])]) [] [0, 1] (by kernel_rfl) (fun _ _ => by rw [show (dwat (l.take (0 : Int).toNat) a) = ([] : List TT5.T) from by simp [dlk1, dlk2, dwat, dlks]]; exact .inl ⟨rfl, rfl⟩) hs4
 refine Wp.loop (T := Go.Lg.Heap × Int × C) (fun (t : Go.Lg.Heap × Int × C) => match t with | (H7, i, cvi) => (((l.length : Int) - i).toNat : Nat)) (fun (t : Go.Lg.Heap × Int × C) => match t with | (H7, i, cvi) => ([(2, .y (.one (.ptr n1 0))), (3, .y (.one (.ptr n2 0))), (5, .y (.one (cvi))), (6, xi i)] : Env)) (fun (t : Go.Lg.Heap × Int × C) => match t with | (H7, i, cvi) => (H7 : Go.Lg.Heap))
   (fun (t : Go.Lg.Heap × Int × C) => match t with | (H7, i, cvi) => (On [pts n1 (.obj [vb true, sv TT5 rb rn rp l]), pts n2 (.obj [vi a.1, vi a.2.1]), ownP TT5 cvi (dwat (l.take (i : Int).toNat) a)] H7 ∧ (0 ≤ i) ∧ (i ≤ (l.length : Int)) ∧ (((dwat (l.take (i : Int).toNat) a).length : Int) ≤ i) : Prop)) (H3, 0, (.sl false true true [] 0)) (by kernel_rfl) (⟨(On.pick [0, 1, 2] [] (by kernel_rfl) hs5), by omega, by omega, dwat_len _ _ (Int.le_refl 0)⟩) ?_
 rintro ⟨H7, i, cvi⟩ ⟨hs8, hi1, hi2, hi3⟩
 show Wp _ _ _ _ [(2, .y (.one (.ptr n1 0))), (3, .y (.one (.ptr n2 0))), (5, .y (.one (cvi))), (6, xi i)] H7 _
 refine Wp.seq ?_
 rcases ilt (i) ((l.length : Int)) with c9 | c9
 ·
  refine Wp.regionSeq [(2, .y (.one (sv TT5 rb rn rp l)), H7), (4, xb true, H7)] [(2, .y (.one (.ptr n1 0))), (3, .y (.one (.ptr n2 0))), (5, .y (.one (cvi))), (6, xi i), (11, xb true)] H7
    (cast (And.intro (ob_load_ptr (P := pg) (A := an) (H := H7) (t := 35) (ty := 0) (id := n1) (off := 1) (n := 1) (cs := [vb true, sv TT5 rb rn rp l]) (cs' := [sv TT5 rb rn rp l]) (v := .one (sv TT5 rb rn rp l)) (On.at hs8 0 rfl) (by kernel_rfl) (by kernel_rfl) (by kernel_rfl) (by kernel_rfl)) (And.intro (ob_raw (P := pg) (A := an) (vals := [xi i, xi (l.length : Int)]) (H := H7) (op := .binOp .lss 3 (.tmp 0) (.tmp 1) 3) (ty := 0) (r := xb (decide (ILt (i) ((l.length : Int))))) (v := xb true) (by kernel_rfl) (congrArg (fun z => xb z) (decide_eq_true (by omega)))) trivial)) (by kernel_rfl)) (by kernel_rfl) ?_
  refine Wp.condT (by kernel_rfl) ?_
  refine Wp.skip ?_
  refine Wp.seq ?_
  refine Wp.block ?_
  obtain ⟨x10, hx10⟩ : ∃ x, l[(i : Int).toNat]? = some x := get_of (by omega)
  rcases ilt (0) (x10.1) with c11 | c11
  ·
   rcases Bool.eq_false_or_eq_true ((eqb PD x10.2.2.1 a)) with c12 | c12
   ·
    refine Wp.regionSeq [(1, .y (.one (sv TT5 rb rn rp l)), H7), (3, .y (.one (.rd ([vi x10.1, vi x10.2.1.1, vi x10.2.1.2.1, vi x10.2.2.1.1, vi x10.2.2.1.2.1] ++ (l.drop ((i : Int).toNat + 1)).flatMap (enc TT5)))), H7), (6, xb true, H7), (9, .y (.one (sv TT5 rb rn rp l)), H7), (11, .y (.one (.rd ([vi x10.1, vi x10.2.1.1, vi x10.2.1.2.1, vi x10.2.2.1.1, vi x10.2.2.1.2.1] ++ (l.drop ((i : Int).toNat + 1)).flatMap (enc TT5)))), H7), (14, .y (.agg [vi a.1, vi a.2.1]), H7), (15, xb true, H7)] [(2, .y (.one (.ptr n1 0))), (3, .y (.one (.ptr n2 0))), (5, .y (.one (cvi))), (6, xi i), (30, xb true)] H7
      (cast (And.intro (ob_load_ptr (P := pg) (A := an) (H := H7) (t := 35) (ty := 0) (id := n1) (off := 1) (n := 1) (cs := [vb true, sv TT5 rb rn rp l]) (cs' := [sv TT5 rb rn rp l]) (v := .one (sv TT5 rb rn rp l)) (On.at hs8 0 rfl) (by kernel_rfl) (by kernel_rfl) (by kernel_rfl) (by kernel_rfl)) (And.intro (ob_index (P := pg) (A := an) (H := H7) (s := TT5) (b := rb) (nil := rn) (capd := rp) (t := 35) (el := 41) (i := i) Try.underlying35 (by kernel_rfl) (by kernel_rfl) (by omega) hx10) (And.intro (ob_raw (P := pg) (A := an) (vals := [xi x10.1, xi 0]) (H := H7) (op := .binOp .gtr 3 (.tmp 0) (.tmp 1) 3) (ty := 0) (r := xb (decide (ILt (0) (x10.1)))) (v := xb true) (by kernel_rfl) (congrArg (fun z => xb z) (decide_eq_true (by omega)))) (And.intro (ob_load_ptr (P := pg) (A := an) (H := H7) (t := 35) (ty := 0) (id := n1) (off := 1) (n := 1) (cs := [vb true, sv TT5 rb rn rp l]) (cs' := [sv TT5 rb rn rp l]) (v := .one (sv TT5 rb rn rp l)) (On.at hs8 0 rfl) (by kernel_rfl) (by kernel_rfl) (by kernel_rfl) (by kernel_rfl)) (And.intro (ob_index (P := pg) (A := an) (H := H7) (s := TT5) (b := rb) (nil := rn) (capd := rp) (t := 35) (el := 41) (i := i) Try.underlying35 (by kernel_rfl) (by kernel_rfl) (by omega) hx10) (And.intro (ob_load_ptr (P := pg) (A := an) (H := H7) (t := 24) (ty := 0) (id := n2) (off := 0) (n := 2) (cs := [vi a.1, vi a.2.1]) (cs' := [vi a.1, vi a.2.1]) (v := .agg [vi a.1, vi a.2.1]) (On.at hs8 1 rfl) (by kernel_rfl) (by kernel_rfl) (by kernel_rfl) (by kernel_rfl)) (And.intro (ob_eq_agg (P := pg) (A := an) (H := H7) (s := PD) (t := 24) (u := 24) (ty := 0) (x := x10.2.2.1) (y := a) (r := true) (by kernel_rfl) c12) trivial))))))) (by kernel_rfl)) (by kernel_rfl) ?_
    refine Wp.condT (by kernel_rfl) ?_
    obtain ⟨cv13, H14, ho15, hs16⟩ := or_append_own (P := pg) (A := an) (s := TT5) (t := 35) (u := 35) (el := 41) (by_ := 40) (z := [vi 0, vi 0, vi 0, vi 0, vi 0]) (ty := 0) (y := .sl false false true [vi x10.1, vi x10.2.1.1, vi x10.2.1.2.1, vi x10.2.2.1.1, vi x10.2.2.1.2.1] 1) (lm := ([x10])) (m := 1) hs8 2 rfl ((slCells_slO (H := H7) (s := TT5) (b := false) (nil := false) (capd := true) (l := [x10]) (n := 1) (by first | rfl | omega | (simp only [List.length_nil]; omega) | (simp; done) | (simp; omega)))) (by kernel_rfl) (by kernel_rfl) (by kernel_rfl) (by kernel_rfl) (by kernel_rfl) (by kernel_rfl) (by kernel_rfl) (by first | rfl | omega | (simp only [List.length_nil]; omega) | (simp; done) | (simp; omega)) (by omega) (by omega)
    have hs16l : (((dwat (l.take (i : Int).toNat) a) ++ ([x10])).length : Int) = (((dwat (l.take (i : Int).toNat) a).length : Int) + 1) := by { first | omega | (simp only [List.length_append]; omega) | (simp; done) | (simp; omega) }
    refine Wp.regionK [(2, .y (.one (sv TT5 rb rn rp l)), H7), (4, .y (.one (.rd ([vi x10.1, vi x10.2.1.1, vi x10.2.1.2.1, vi x10.2.2.1.1, vi x10.2.2.1.2.1] ++ (l.drop ((i : Int).toNat + 1)).flatMap (enc TT5)))), H7), (7, .y (.one (cv13)), H14)] [(2, .y (.one (.ptr n1 0))), (3, .y (.one (.ptr n2 0))), (5, .y (.one (cv13))), (6, xi i)] H14
      (cast (And.intro (ob_load_ptr (P := pg) (A := an) (H := H7) (t := 35) (ty := 0) (id := n1) (off := 1) (n := 1) (cs := [vb true, sv TT5 rb rn rp l]) (cs' := [sv TT5 rb rn rp l]) (v := .one (sv TT5 rb rn rp l)) (On.at hs8 0 rfl) (by kernel_rfl) (by kernel_rfl) (by kernel_rfl) (by kernel_rfl)) (And.intro (ob_index (P := pg) (A := an) (H := H7) (s := TT5) (b := rb) (nil := rn) (capd := rp) (t := 35) (el := 41) (i := i) Try.underlying35 (by kernel_rfl) (by kernel_rfl) (by omega) hx10) (And.intro ho15 trivial))) (by kernel_rfl)) (by kernel_rfl) ?_
    refine Wp.gen (cs := [pts n1 (.obj [vb true, sv TT5 rb rn rp l]), pts n2 (.obj [vi a.1, vi a.2.1]), ownP TT5 cv13 ((dwat (l.take (i : Int).toNat) a) ++ ([x10]))]) hs16 ?_
    intro H17 hs18
    refine Wp.skip ?_
    refine Wp.region [(1, xi (i + 1), H17)] [(2, .y (.one (.ptr n1 0))), (3, .y (.one (.ptr n2 0))), (5, .y (.one (cv13))), (6, xi (i + 1))] H17
      (cast (And.intro (ob_raw (P := pg) (A := an) (vals := [xi i, xi 1]) (H := H17) (op := .binOp .add 3 (.tmp 0) (.tmp 1) 3) (ty := 0) (r := xi (IntKind.wrap .i64 (i + 1))) (v := xi (i + 1)) (by kernel_rfl) (congrArg (fun z => xi z) ((wrap64 (by omega)).trans (by omega)))) trivial) (by kernel_rfl)) (by kernel_rfl) ?_
    exact ⟨(H17, (i + 1), cv13), by kernel_rfl, (⟨(On.pick [0, 1, 2] [] (by kernel_rfl) (On.mono (A' := ownP TT5 cv13 (dwat (l.take (i + 1 : Int).toNat) a)) 2 rfl (fun _ x => by rw [← (show ((dwat (l.take (i : Int).toNat) a) ++ ([x10])) = (dwat (l.take (i + 1 : Int).toNat) a) from dwat_yes (by omega) hx10 (by omega) c12)]; exact x) hs18)), by omega, by omega, dwat_len _ _ (by omega)⟩), (by show (_ : Nat) < _; simp only []; omega)⟩
   ·
    refine Wp.regionSeq [(1, .y (.one (sv TT5 rb rn rp l)), H7), (3, .y (.one (.rd ([vi x10.1, vi x10.2.1.1, vi x10.2.1.2.1, vi x10.2.2.1.1, vi x10.2.2.1.2.1] ++ (l.drop ((i : Int).toNat + 1)).flatMap (enc TT5)))), H7), (6, xb true, H7), (9, .y (.one (sv TT5 rb rn rp l)), H7), (11, .y (.one (.rd ([vi x10.1, vi x10.2.1.1, vi x10.2.1.2.1, vi x10.2.2.1.1, vi x10.2.2.1.2.1] ++ (l.drop ((i : Int).toNat + 1)).flatMap (enc TT5)))), H7), (14, .y (.agg [vi a.1, vi a.2.1]), H7), (15, xb false, H7)] [(2, .y (.one (.ptr n1 0))), (3, .y (.one (.ptr n2 0))), (5, .y (.one (cvi))), (6, xi i), (30, xb false)] H7
      (cast (And.intro (ob_load_ptr (P := pg) (A := an) (H := H7) (t := 35) (ty := 0) (id := n1) (off := 1) (n := 1) (cs := [vb true, sv TT5 rb rn rp l]) (cs' := [sv TT5 rb rn rp l]) (v := .one (sv TT5 rb rn rp l)) (On.at hs8 0 rfl) (by kernel_rfl) (by kernel_rfl) (by kernel_rfl) (by kernel_rfl)) (And.intro (ob_index (P := pg) (A := an) (H := H7) (s := TT5) (b := rb) (nil := rn) (capd := rp) (t := 35) (el := 41) (i := i) Try.underlying35 (by kernel_rfl) (by kernel_rfl) (by omega) hx10) (And.intro (ob_raw (P := pg) (A := an) (vals := [xi x10.1, xi 0]) (H := H7) (op := .binOp .gtr 3 (.tmp 0) (.tmp 1) 3) (ty := 0) (r := xb (decide (ILt (0) (x10.1)))) (v := xb true) (by kernel_rfl) (congrArg (fun z => xb z) (decide_eq_true (by omega)))) (And.intro (ob_load_ptr (P := pg) (A := an) (H := H7) (t := 35) (ty := 0) (id := n1) (off := 1) (n := 1) (cs := [vb true, sv TT5 rb rn rp l]) (cs' := [sv TT5 rb rn rp l]) (v := .one (sv TT5 rb rn rp l)) (On.at hs8 0 rfl) (by kernel_rfl) (by kernel_rfl) (by kernel_rfl) (by kernel_rfl)) (And.intro (ob_index (P := pg) (A := an) (H := H7) (s := TT5) (b := rb) (nil := rn) (capd := rp) (t := 35) (el := 41) (i := i) Try.underlying35 (by kernel_rfl) (by kernel_rfl) (by omega) hx10) (And.intro (ob_load_ptr (P := pg) (A := an) (H := H7) (t := 24) (ty := 0) (id := n2) (off := 0) (n := 2) (cs := [vi a.1, vi a.2.1]) (cs' := [vi a.1, vi a.2.1]) (v := .agg [vi a.1, vi a.2.1]) (On.at hs8 1 rfl) (by kernel_rfl) (by kernel_rfl) (by kernel_rfl) (by kernel_rfl)) (And.intro (ob_eq_agg (P := pg) (A := an) (H := H7) (s := PD) (t := 24) (u := 24) (ty := 0) (x := x10.2.2.1) (y := a) (r := false) (by kernel_rfl) c12) trivial))))))) (by kernel_rfl)) (by kernel_rfl) ?_
    refine Wp.condF (by kernel_rfl) ?_
    refine Wp.skip ?_
    refine Wp.region [(1, xi (i + 1), H7)] [(2, .y (.one (.ptr n1 0))), (3, .y (.one (.ptr n2 0))), (5, .y (.one (cvi))), (6, xi (i + 1))] H7
      (cast (And.intro (ob_raw (P := pg) (A := an) (vals := [xi i, xi 1]) (H := H7) (op := .binOp .add 3 (.tmp 0) (.tmp 1) 3) (ty := 0) (r := xi (IntKind.wrap .i64 (i + 1))) (v := xi (i + 1)) (by kernel_rfl) (congrArg (fun z => xi z) ((wrap64 (by omega)).trans (by omega)))) trivial) (by kernel_rfl)) (by kernel_rfl) ?_
    exact ⟨(H7, (i + 1), cvi), by kernel_rfl, (⟨(On.pick [0, 1, 2] [] (by kernel_rfl) (On.mono (A' := ownP TT5 cvi (dwat (l.take (i + 1 : Int).toNat) a)) 2 rfl (fun _ x => by rw [← (show (dwat (l.take (i : Int).toNat) a) = (dwat (l.take (i + 1 : Int).toNat) a) from dwat_no (by omega) hx10 (.inr c12))]; exact x) hs8)), by omega, by omega, dwat_len _ _ (by omega)⟩), (by show (_ : Nat) < _; simp only []; omega)⟩
  ·
   refine Wp.regionSeq [(1, .y (.one (sv TT5 rb rn rp l)), H7), (3, .y (.one (.rd ([vi x10.1, vi x10.2.1.1, vi x10.2.1.2.1, vi x10.2.2.1.1, vi x10.2.2.1.2.1] ++ (l.drop ((i : Int).toNat + 1)).flatMap (enc TT5)))), H7), (6, xb false, H7)] [(2, .y (.one (.ptr n1 0))), (3, .y (.one (.ptr n2 0))), (5, .y (.one (cvi))), (6, xi i), (30, xb false)] H7
     (cast (And.intro (ob_load_ptr (P := pg) (A := an) (H := H7) (t := 35) (ty := 0) (id := n1) (off := 1) (n := 1) (cs := [vb true, sv TT5 rb rn rp l]) (cs' := [sv TT5 rb rn rp l]) (v := .one (sv TT5 rb rn rp l)) (On.at hs8 0 rfl) (by kernel_rfl) (by kernel_rfl) (by kernel_rfl) (by kernel_rfl)) (And.intro (ob_index (P := pg) (A := an) (H := H7) (s := TT5) (b := rb) (nil := rn) (capd := rp) (t := 35) (el := 41) (i := i) Try.underlying35 (by kernel_rfl) (by kernel_rfl) (by omega) hx10) (And.intro (ob_raw (P := pg) (A := an) (vals := [xi x10.1, xi 0]) (H := H7) (op := .binOp .gtr 3 (.tmp 0) (.tmp 1) 3) (ty := 0) (r := xb (decide (ILt (0) (x10.1)))) (v := xb false) (by kernel_rfl) (congrArg (fun z => xb z) (decide_eq_false (by omega)))) trivial))) (by kernel_rfl)) (by kernel_rfl) ?_
   refine Wp.condF (by kernel_rfl) ?_
   refine Wp.skip ?_
   refine Wp.region [(1, xi (i + 1), H7)] [(2, .y (.one (.ptr n1 0))), (3, .y (.one (.ptr n2 0))), (5, .y (.one (cvi))), (6, xi (i + 1))] H7
     (cast (And.intro (ob_raw (P := pg) (A := an) (vals := [xi i, xi 1]) (H := H7) (op := .binOp .add 3 (.tmp 0) (.tmp 1) 3) (ty := 0) (r := xi (IntKind.wrap .i64 (i + 1))) (v := xi (i + 1)) (by kernel_rfl) (congrArg (fun z => xi z) ((wrap64 (by omega)).trans (by omega)))) trivial) (by kernel_rfl)) (by kernel_rfl) ?_
   exact ⟨(H7, (i + 1), cvi), by kernel_rfl, (⟨(On.pick [0, 1, 2] [] (by kernel_rfl) (On.mono (A' := ownP TT5 cvi (dwat (l.take (i + 1 : Int).toNat) a)) 2 rfl (fun _ x => by rw [← (show (dwat (l.take (i : Int).toNat) a) = (dwat (l.take (i + 1 : Int).toNat) a) from dwat_no (by omega) hx10 (.inl (by omega)))]; exact x) hs8)), by omega, by omega, dwat_len _ _ (by omega)⟩), (by show (_ : Nat) < _; simp only []; omega)⟩
 ·
  refine Wp.regionSeq [(2, .y (.one (sv TT5 rb rn rp l)), H7), (4, xb false, H7)] [(2, .y (.one (.ptr n1 0))), (3, .y (.one (.ptr n2 0))), (5, .y (.one (cvi))), (6, xi i), (11, xb false)] H7
    (cast (And.intro (ob_load_ptr (P := pg) (A := an) (H := H7) (t := 35) (ty := 0) (id := n1) (off := 1) (n := 1) (cs := [vb true, sv TT5 rb rn rp l]) (cs' := [sv TT5 rb rn rp l]) (v := .one (sv TT5 rb rn rp l)) (On.at hs8 0 rfl) (by kernel_rfl) (by kernel_rfl) (by kernel_rfl) (by kernel_rfl)) (And.intro (ob_raw (P := pg) (A := an) (vals := [xi i, xi (l.length : Int)]) (H := H7) (op := .binOp .lss 3 (.tmp 0) (.tmp 1) 3) (ty := 0) (r := xb (decide (ILt (i) ((l.length : Int))))) (v := xb false) (by kernel_rfl) (congrArg (fun z => xb z) (decide_eq_false (by omega)))) trivial)) (by kernel_rfl)) (by kernel_rfl) ?_
  refine Wp.condF (by kernel_rfl) ?_
  refine Wp.exit ?_
  refine Eq.mpr (if_pos rfl) ?_
  refine Wp.regionSeq [] [(4, .y (.one (cvi)))] H7
    (cast trivial (by kernel_rfl)) (by kernel_rfl) ?_
  refine Wp.ret ?_
  refine ⟨Or.inr rfl, [.one (cvi)], (by kernel_rfl), ?_⟩
  obtain ⟨fn19, fp20, hf21⟩ := own_back (On.mono (A' := ownP TT5 cvi (dwat l a)) 2 rfl (fun _ x => by rw [← (show (dwat (l.take (i : Int).toNat) a) = (dwat l a) from by rw [take_all (by omega)])]; exact x) hs8) 2 rfl
  exact ⟨fn19, fp20, (back_cons (back_one hf21) rfl)⟩
theorem dlkj_len (l : List TT5.T) (a : PD.T) {j : Int} (h0 : 0 ≤ j) : ((dlk1 l a ++ dlk2 (l.take j.toNat) a).length : Int) ≤ (l.length : Int) + j := by
  have h1 := dlk1_len l a (i := (l.length : Int)) (Int.natCast_nonneg _)
  rw [take_all (Int.le_refl _)] at h1
  have h2 := dlk2_len l a h0
  rw [List.length_append]
  omega
theorem rlinks_ok (rb rn rp : Bool) (l : List TT5.T) (hl : (l.length : Int) ≤ 1000000000) (a : PD.T)  : ∃ n : Bool, ∃ p : Bool, PureC pg an 43 [.agg [vb true, sv TT5 rb rn rp l], .agg [vi a.1, vi a.2.1]] [.one (sv PD false n p (dlks l a))] := by
 suffices h : ∃ rs H', Runs pg an 43 [.agg [vb true, sv TT5 rb rn rp l], .agg [vi a.1, vi a.2.1]] [] rs H' ∧ ∃ n : Bool, ∃ p : Bool, rs.mapM (backY H') = some [.one (sv PD false n p (dlks l a))] by
  obtain ⟨rs, H', h1, n, p, h2⟩ := h
  exact ⟨n, p, rs, H', h1, h2⟩
 refine Runs.of (fn := Try.f43) Try.func43 rfl (by kernel_rfl) [(0, .y (.agg [vb true, sv TT5 rb rn rp l])), (1, .y (.agg [vi a.1, vi a.2.1]))] (by kernel_rfl) ?_
 obtain ⟨n1, hn1⟩ : ∃ n, n = List.length ([] : Go.Lg.Heap) := ⟨_, rfl⟩
 obtain ⟨n2, hn2⟩ : ∃ n, n = List.length (([] ++ [.obj [vb true, sv TT5 rb rn rp l]]) : Go.Lg.Heap) := ⟨_, rfl⟩
 refine Wp.regionSeq [(0, .y (.one (.ptr n1 0)), ([] ++ [.obj [vb true, sv TT5 rb rn rp l]])), (1, .y (.one (.ptr n2 0)), (([] ++ [.obj [vb true, sv TT5 rb rn rp l]]) ++ [.obj [vi a.1, vi a.2.1]]))] [(2, .y (.one (.ptr n1 0))), (3, .y (.one (.ptr n2 0)))] (([] ++ [.obj [vb true, sv TT5 rb rn rp l]]) ++ [.obj [vi a.1, vi a.2.1]])
   (cast (And.intro (ob_box (P := pg) (A := an) (H := []) (t := 48) (ty := 0) (n := n1) (v := .agg [vb true, sv TT5 rb rn rp l]) (cs := [vb true, sv TT5 rb rn rp l]) hn1 (by kernel_rfl) (by kernel_rfl) (by kernel_rfl)) (And.intro (ob_box (P := pg) (A := an) (H := ([] ++ [.obj [vb true, sv TT5 rb rn rp l]])) (t := 24) (ty := 0) (n := n2) (v := .agg [vi a.1, vi a.2.1]) (cs := [vi a.1, vi a.2.1]) hn2 (by kernel_rfl) (by kernel_rfl) (by kernel_rfl)) trivial)) (by kernel_rfl)) (by kernel_rfl) ?_
 refine Wp.gen (cs := [pts n1 (.obj [vb true, sv TT5 rb rn rp l]), pts n2 (.obj [vi a.1, vi a.2.1])]) (On.new' hn2 (.obj [vi a.1, vi a.2.1]) (On.new' hn1 (.obj [vb true, sv TT5 rb rn rp l]) (On.nil []))) ?_
 intro H3 hs4
 refine Wp.regionSeq [] [(2, .y (.one (.ptr n1 0))), (3, .y (.one (.ptr n2 0))), (5, .y (.one (.sl false true true [] 0)))] H3
   (cast trivial (by kernel_rfl)) (by kernel_rfl) ?_
 refine Wp.seq ?_
 refine Wp.regionSeq [] [(2, .y (.one (.ptr n1 0))), (3, .y (.one (.ptr n2 0))), (5, .y (.one (.sl false true true [] 0))), (6, xi 0)] H3
   (cast trivial (by kernel_rfl)) (by kernel_rfl) ?_
 refine Wp.block ?_
 have hs5 : On [pts n1 (.obj [vb true, sv TT5 rb rn rp l]), pts n2 (.obj [vi a.1, vi a.2.1]), ownP PD (.sl false true true [] 0) (dlk1 (l.take (0 : Int).toNat) a)] H3 := On.shut (cs := [pts n1 (.obj [vb true, sv TT5 rb rn rp l]), pts n2 (.obj [vi a.1, vi a.2.1])]) [] [0, 1] (by kernel_rfl) (fun _ _ => by rw [show (dlk1 (l.take (0 : Int).toNat) a) = ([] : List PD.T) from by simp [dlk1, dlk2, dwat, dlks]]; exact .inl ⟨rfl, rfl⟩) hs4
 refine Wp.loop (T := Go.Lg.Heap × Int × C) (fun (t : Go.Lg.Heap × Int × C) => match t with | (H7, i, cvi) => (((l.length : Int) - i).toNat : Nat)) (fun (t : Go.Lg.Heap × Int × C) => match t with | (H7, i, cvi) => ([(2, .y (.one (.ptr n1 0))), (3, .y (.one (.ptr n2 0))), (5, .y (.one (cvi))), (6, xi i)] : Env)) (fun (t : Go.Lg.Heap × Int × C) => match t with | (H7, i, cvi) => (H7 : Go.Lg.Heap))
   (fun (t : Go.Lg.Heap × Int × C) => match t with | (H7, i, cvi) => (On [pts n1 (.obj [vb true, sv TT5 rb rn rp l]), pts n2 (.obj [vi a.1, vi a.2.1]), ownP PD cvi (dlk1 (l.take (i : Int).toNat) a)] H7 ∧ (0 ≤ i) ∧ (i ≤ (l.length : Int)) ∧ (((dlk1 (l.take (i : Int).toNat) a).length : Int) ≤ i) : Prop)) (H3, 0, (.sl false true true [] 0)) (by kernel_rfl) (⟨(On.pick [0, 1, 2] [] (by kernel_rfl) hs5), by omega, by omega, dlk1_len _ _ (Int.le_refl 0)⟩) ?_
 rintro ⟨H7, i, cvi⟩ ⟨hs8, hi1, hi2, hi3⟩
 show Wp _ _ _ _ [(2, .y (.one (.ptr n1 0))), (3, .y (.one (.ptr n2 0))), (5, .y (.one (cvi))), (6, xi i)] H7 _
 refine Wp.seq ?_
 rcases ilt (i) ((l.length : Int)) with c9 | c9
 ·
  refine Wp.regionSeq [(2, .y (.one (sv TT5 rb rn rp l)), H7), (4, xb true, H7)] [(2, .y (.one (.ptr n1 0))), (3, .y (.one (.ptr n2 0))), (5, .y (.one (cvi))), (6, xi i), (12, xb true)] H7
    (cast (And.intro (ob_load_ptr (P := pg) (A := an) (H := H7) (t := 35) (ty := 0) (id := n1) (off := 1) (n := 1) (cs := [vb true, sv TT5 rb rn rp l]) (cs' := [sv TT5 rb rn rp l]) (v := .one (sv TT5 rb rn rp l)) (On.at hs8 0 rfl) (by kernel_rfl) (by kernel_rfl) (by kernel_rfl) (by kernel_rfl)) (And.intro (ob_raw (P := pg) (A := an) (vals := [xi i, xi (l.length : Int)]) (H := H7) (op := .binOp .lss 3 (.tmp 0) (.tmp 1) 3) (ty := 0) (r := xb (decide (ILt (i) ((l.length : Int))))) (v := xb true) (by kernel_rfl) (congrArg (fun z => xb z) (decide_eq_true (by omega)))) trivial)) (by kernel_rfl)) (by kernel_rfl) ?_
  refine Wp.condT (by kernel_rfl) ?_
  refine Wp.skip ?_
  refine Wp.seq ?_
  refine Wp.block ?_
  obtain ⟨x10, hx10⟩ : ∃ x, l[(i : Int).toNat]? = some x := get_of (by omega)
  rcases ieq (x10.1) (0) with c11 | c11
  ·
   rcases Bool.eq_false_or_eq_true ((eqb PD x10.2.2.1 a)) with c12 | c12
   ·
    refine Wp.regionSeq [(1, .y (.one (sv TT5 rb rn rp l)), H7), (3, .y (.one (.rd ([vi x10.1, vi x10.2.1.1, vi x10.2.1.2.1, vi x10.2.2.1.1, vi x10.2.2.1.2.1] ++ (l.drop ((i : Int).toNat + 1)).flatMap (enc TT5)))), H7), (6, xb true, H7), (9, .y (.one (sv TT5 rb rn rp l)), H7), (11, .y (.one (.rd ([vi x10.1, vi x10.2.1.1, vi x10.2.1.2.1, vi x10.2.2.1.1, vi x10.2.2.1.2.1] ++ (l.drop ((i : Int).toNat + 1)).flatMap (enc TT5)))), H7), (14, .y (.agg [vi a.1, vi a.2.1]), H7), (15, xb true, H7)] [(2, .y (.one (.ptr n1 0))), (3, .y (.one (.ptr n2 0))), (5, .y (.one (cvi))), (6, xi i), (31, xb true)] H7
      (cast (And.intro (ob_load_ptr (P := pg) (A := an) (H := H7) (t := 35) (ty := 0) (id := n1) (off := 1) (n := 1) (cs := [vb true, sv TT5 rb rn rp l]) (cs' := [sv TT5 rb rn rp l]) (v := .one (sv TT5 rb rn rp l)) (On.at hs8 0 rfl) (by kernel_rfl) (by kernel_rfl) (by kernel_rfl) (by kernel_rfl)) (And.intro (ob_index (P := pg) (A := an) (H := H7) (s := TT5) (b := rb) (nil := rn) (capd := rp) (t := 35) (el := 41) (i := i) Try.underlying35 (by kernel_rfl) (by kernel_rfl) (by omega) hx10) (And.intro (ob_raw (P := pg) (A := an) (vals := [xi x10.1, xi 0]) (H := H7) (op := .binOp .eql 3 (.tmp 0) (.tmp 1) 3) (ty := 0) (r := xb (beqI (x10.1) (0))) (v := xb true) (by kernel_rfl) (congrArg (fun z => xb z) (beq_t (by omega)))) (And.intro (ob_load_ptr (P := pg) (A := an) (H := H7) (t := 35) (ty := 0) (id := n1) (off := 1) (n := 1) (cs := [vb true, sv TT5 rb rn rp l]) (cs' := [sv TT5 rb rn rp l]) (v := .one (sv TT5 rb rn rp l)) (On.at hs8 0 rfl) (by kernel_rfl) (by kernel_rfl) (by kernel_rfl) (by kernel_rfl)) (And.intro (ob_index (P := pg) (A := an) (H := H7) (s := TT5) (b := rb) (nil := rn) (capd := rp) (t := 35) (el := 41) (i := i) Try.underlying35 (by kernel_rfl) (by kernel_rfl) (by omega) hx10) (And.intro (ob_load_ptr (P := pg) (A := an) (H := H7) (t := 24) (ty := 0) (id := n2) (off := 0) (n := 2) (cs := [vi a.1, vi a.2.1]) (cs' := [vi a.1, vi a.2.1]) (v := .agg [vi a.1, vi a.2.1]) (On.at hs8 1 rfl) (by kernel_rfl) (by kernel_rfl) (by kernel_rfl) (by kernel_rfl)) (And.intro (ob_eq_agg (P := pg) (A := an) (H := H7) (s := PD) (t := 24) (u := 24) (ty := 0) (x := x10.2.2.1) (y := a) (r := true) (by kernel_rfl) c12) trivial))))))) (by kernel_rfl)) (by kernel_rfl) ?_
    refine Wp.condT (by kernel_rfl) ?_
    obtain ⟨cv13, H14, ho15, hs16⟩ := or_append_own (P := pg) (A := an) (s := PD) (t := 32) (u := 32) (el := 24) (by_ := 16) (z := [vi 0, vi 0]) (ty := 0) (y := .sl false false true [vi x10.2.1.1, vi x10.2.1.2.1] 1) (lm := ([x10.2.1])) (m := 1) hs8 2 rfl ((slCells_slO (H := H7) (s := PD) (b := false) (nil := false) (capd := true) (l := [x10.2.1]) (n := 1) (by first | rfl | omega | (simp only [List.length_nil]; omega) | (simp; done) | (simp; omega)))) (by kernel_rfl) (by kernel_rfl) (by kernel_rfl) (by kernel_rfl) (by kernel_rfl) (by kernel_rfl) (by kernel_rfl) (by first | rfl | omega | (simp only [List.length_nil]; omega) | (simp; done) | (simp; omega)) (by omega) (by omega)
    have hs16l : (((dlk1 (l.take (i : Int).toNat) a) ++ ([x10.2.1])).length : Int) = (((dlk1 (l.take (i : Int).toNat) a).length : Int) + 1) := by { first | omega | (simp only [List.length_append]; omega) | (simp; done) | (simp; omega) }
    refine Wp.regionK [(2, .y (.one (sv TT5 rb rn rp l)), H7), (4, .y (.one (.rd ([vi x10.1, vi x10.2.1.1, vi x10.2.1.2.1, vi x10.2.2.1.1, vi x10.2.2.1.2.1] ++ (l.drop ((i : Int).toNat + 1)).flatMap (enc TT5)))), H7), (8, .y (.one (cv13)), H14)] [(2, .y (.one (.ptr n1 0))), (3, .y (.one (.ptr n2 0))), (5, .y (.one (cv13))), (6, xi i)] H14
      (cast (And.intro (ob_load_ptr (P := pg) (A := an) (H := H7) (t := 35) (ty := 0) (id := n1) (off := 1) (n := 1) (cs := [vb true, sv TT5 rb rn rp l]) (cs' := [sv TT5 rb rn rp l]) (v := .one (sv TT5 rb rn rp l)) (On.at hs8 0 rfl) (by kernel_rfl) (by kernel_rfl) (by kernel_rfl) (by kernel_rfl)) (And.intro (ob_index (P := pg) (A := an) (H := H7) (s := TT5) (b := rb) (nil := rn) (capd := rp) (t := 35) (el := 41) (i := i) Try.underlying35 (by kernel_rfl) (by kernel_rfl) (by omega) hx10) (And.intro ho15 trivial))) (by kernel_rfl)) (by kernel_rfl) ?_
    refine Wp.gen (cs := [pts n1 (.obj [vb true, sv TT5 rb rn rp l]), pts n2 (.obj [vi a.1, vi a.2.1]), ownP PD cv13 ((dlk1 (l.take (i : Int).toNat) a) ++ ([x10.2.1]))]) hs16 ?_
    intro H17 hs18
    refine Wp.skip ?_
    refine Wp.region [(1, xi (i + 1), H17)] [(2, .y (.one (.ptr n1 0))), (3, .y (.one (.ptr n2 0))), (5, .y (.one (cv13))), (6, xi (i + 1))] H17
      (cast (And.intro (ob_raw (P := pg) (A := an) (vals := [xi i, xi 1]) (H := H17) (op := .binOp .add 3 (.tmp 0) (.tmp 1) 3) (ty := 0) (r := xi (IntKind.wrap .i64 (i + 1))) (v := xi (i + 1)) (by kernel_rfl) (congrArg (fun z => xi z) ((wrap64 (by omega)).trans (by omega)))) trivial) (by kernel_rfl)) (by kernel_rfl) ?_
    exact ⟨(H17, (i + 1), cv13), by kernel_rfl, (⟨(On.pick [0, 1, 2] [] (by kernel_rfl) (On.mono (A' := ownP PD cv13 (dlk1 (l.take (i + 1 : Int).toNat) a)) 2 rfl (fun _ x => by rw [← (show ((dlk1 (l.take (i : Int).toNat) a) ++ ([x10.2.1])) = (dlk1 (l.take (i + 1 : Int).toNat) a) from dlk1_yes (by omega) hx10 (by omega) c12)]; exact x) hs18)), by omega, by omega, dlk1_len _ _ (by omega)⟩), (by show (_ : Nat) < _; simp only []; omega)⟩
   ·
    refine Wp.regionSeq [(1, .y (.one (sv TT5 rb rn rp l)), H7), (3, .y (.one (.rd ([vi x10.1, vi x10.2.1.1, vi x10.2.1.2.1, vi x10.2.2.1.1, vi x10.2.2.1.2.1] ++ (l.drop ((i : Int).toNat + 1)).flatMap (enc TT5)))), H7), (6, xb true, H7), (9, .y (.one (sv TT5 rb rn rp l)), H7), (11, .y (.one (.rd ([vi x10.1, vi x10.2.1.1, vi x10.2.1.2.1, vi x10.2.2.1.1, vi x10.2.2.1.2.1] ++ (l.drop ((i : Int).toNat + 1)).flatMap (enc TT5)))), H7), (14, .y (.agg [vi a.1, vi a.2.1]), H7), (15, xb false, H7)] [(2, .y (.one (.ptr n1 0))), (3, .y (.one (.ptr n2 0))), (5, .y (.one (cvi))), (6, xi i), (31, xb false)] H7
      (cast (And.intro (ob_load_ptr (P := pg) (A := an) (H := H7) (t := 35) (ty := 0) (id := n1) (off := 1) (n := 1) (cs := [vb true, sv TT5 rb rn rp l]) (cs' := [sv TT5 rb rn rp l]) (v := .one (sv TT5 rb rn rp l)) (On.at hs8 0 rfl) (by kernel_rfl) (by kernel_rfl) (by kernel_rfl) (by kernel_rfl)) (And.intro (ob_index (P := pg) (A := an) (H := H7) (s := TT5) (b := rb) (nil := rn) (capd := rp) (t := 35) (el := 41) (i := i) Try.underlying35 (by kernel_rfl) (by kernel_rfl) (by omega) hx10) (And.intro (ob_raw (P := pg) (A := an) (vals := [xi x10.1, xi 0]) (H := H7) (op := .binOp .eql 3 (.tmp 0) (.tmp 1) 3) (ty := 0) (r := xb (beqI (x10.1) (0))) (v := xb true) (by kernel_rfl) (congrArg (fun z => xb z) (beq_t (by omega)))) (And.intro (ob_load_ptr (P := pg) (A := an) (H := H7) (t := 35) (ty := 0) (id := n1) (off := 1) (n := 1) (cs := [vb true, sv TT5 rb rn rp l]) (cs' := [sv TT5 rb rn rp l]) (v := .one (sv TT5 rb rn rp l)) (On.at hs8 0 rfl) (by kernel_rfl) (by kernel_rfl) (by kernel_rfl) (by kernel_rfl)) (And.intro (ob_index (P := pg) (A := an) (H := H7) (s := TT5) (b := rb) (nil := rn) (capd := rp) (t := 35) (el := 41) (i := i) Try.underlying35 (by kernel_rfl) (by kernel_rfl) (by omega) hx10) (And.intro (ob_load_ptr (P := pg) (A := an) (H := H7) (t := 24) (ty := 0) (id := n2) (off := 0) (n := 2) (cs := [vi a.1, vi a.2.1]) (cs' := [vi a.1, vi a.2.1]) (v := .agg [vi a.1, vi a.2.1]) (On.at hs8 1 rfl) (by kernel_rfl) (by kernel_rfl) (by kernel_rfl) (by kernel_rfl)) (And.intro (ob_eq_agg (P := pg) (A := an) (H := H7) (s := PD) (t := 24) (u := 24) (ty := 0) (x := x10.2.2.1) (y := a) (r := false) (by kernel_rfl) c12) trivial))))))) (by kernel_rfl)) (by kernel_rfl) ?_
    refine Wp.condF (by kernel_rfl) ?_
    refine Wp.skip ?_
    refine Wp.region [(1, xi (i + 1), H7)] [(2, .y (.one (.ptr n1 0))), (3, .y (.one (.ptr n2 0))), (5, .y (.one (cvi))), (6, xi (i + 1))] H7
      (cast (And.intro (ob_raw (P := pg) (A := an) (vals := [xi i, xi 1]) (H := H7) (op := .binOp .add 3 (.tmp 0) (.tmp 1) 3) (ty := 0) (r := xi (IntKind.wrap .i64 (i + 1))) (v := xi (i + 1)) (by kernel_rfl) (congrArg (fun z => xi z) ((wrap64 (by omega)).trans (by omega)))) trivial) (by kernel_rfl)) (by kernel_rfl) ?_
    exact ⟨(H7, (i + 1), cvi), by kernel_rfl, (⟨(On.pick [0, 1, 2] [] (by kernel_rfl) (On.mono (A' := ownP PD cvi (dlk1 (l.take (i + 1 : Int).toNat) a)) 2 rfl (fun _ x => by rw [← (show (dlk1 (l.take (i : Int).toNat) a) = (dlk1 (l.take (i + 1 : Int).toNat) a) from dlk1_no (by omega) hx10 (.inr c12))]; exact x) hs8)), by omega, by omega, dlk1_len _ _ (by omega)⟩), (by show (_ : Nat) < _; simp only []; omega)⟩
  ·
   refine Wp.regionSeq [(1, .y (.one (sv TT5 rb rn rp l)), H7), (3, .y (.one (.rd ([vi x10.1, vi x10.2.1.1, vi x10.2.1.2.1, vi x10.2.2.1.1, vi x10.2.2.1.2.1] ++ (l.drop ((i : Int).toNat + 1)).flatMap (enc TT5)))), H7), (6, xb false, H7)] [(2, .y (.one (.ptr n1 0))), (3, .y (.one (.ptr n2 0))), (5, .y (.one (cvi))), (6, xi i), (31, xb false)] H7
     (cast (And.intro (ob_load_ptr (P := pg) (A := an) (H := H7) (t := 35) (ty := 0) (id := n1) (off := 1) (n := 1) (cs := [vb true, sv TT5 rb rn rp l]) (cs' := [sv TT5 rb rn rp l]) (v := .one (sv TT5 rb rn rp l)) (On.at hs8 0 rfl) (by kernel_rfl) (by kernel_rfl) (by kernel_rfl) (by kernel_rfl)) (And.intro (ob_index (P := pg) (A := an) (H := H7) (s := TT5) (b := rb) (nil := rn) (capd := rp) (t := 35) (el := 41) (i := i) Try.underlying35 (by kernel_rfl) (by kernel_rfl) (by omega) hx10) (And.intro (ob_raw (P := pg) (A := an) (vals := [xi x10.1, xi 0]) (H := H7) (op := .binOp .eql 3 (.tmp 0) (.tmp 1) 3) (ty := 0) (r := xb (beqI (x10.1) (0))) (v := xb false) (by kernel_rfl) (congrArg (fun z => xb z) (beq_f (by omega)))) trivial))) (by kernel_rfl)) (by kernel_rfl) ?_
   refine Wp.condF (by kernel_rfl) ?_
   refine Wp.skip ?_
   refine Wp.region [(1, xi (i + 1), H7)] [(2, .y (.one (.ptr n1 0))), (3, .y (.one (.ptr n2 0))), (5, .y (.one (cvi))), (6, xi (i + 1))] H7
     (cast (And.intro (ob_raw (P := pg) (A := an) (vals := [xi i, xi 1]) (H := H7) (op := .binOp .add 3 (.tmp 0) (.tmp 1) 3) (ty := 0) (r := xi (IntKind.wrap .i64 (i + 1))) (v := xi (i + 1)) (by kernel_rfl) (congrArg (fun z => xi z) ((wrap64 (by omega)).trans (by omega)))) trivial) (by kernel_rfl)) (by kernel_rfl) ?_
   exact ⟨(H7, (i + 1), cvi), by kernel_rfl, (⟨(On.pick [0, 1, 2] [] (by kernel_rfl) (On.mono (A' := ownP PD cvi (dlk1 (l.take (i + 1 : Int).toNat) a)) 2 rfl (fun _ x => by rw [← (show (dlk1 (l.take (i : Int).toNat) a) = (dlk1 (l.take (i + 1 : Int).toNat) a) from dlk1_no (by omega) hx10 (.inl (by omega)))]; exact x) hs8)), by omega, by omega, dlk1_len _ _ (by omega)⟩), (by show (_ : Nat) < _; simp only []; omega)⟩
 ·
  refine Wp.regionSeq [(2, .y (.one (sv TT5 rb rn rp l)), H7), (4, xb false, H7)] [(2, .y (.one (.ptr n1 0))), (3, .y (.one (.ptr n2 0))), (5, .y (.one (cvi))), (6, xi i), (12, xb false)] H7
    (cast (And.intro (ob_load_ptr (P := pg) (A := an) (H := H7) (t := 35) (ty := 0) (id := n1) (off := 1) (n := 1) (cs := [vb true, sv TT5 rb rn rp l]) (cs' := [sv TT5 rb rn rp l]) (v := .one (sv TT5 rb rn rp l)) (On.at hs8 0 rfl) (by kernel_rfl) (by kernel_rfl) (by kernel_rfl) (by kernel_rfl)) (And.intro (ob_raw (P := pg) (A := an) (vals := [xi i, xi (l.length : Int)]) (H := H7) (op := .binOp .lss 3 (.tmp 0) (.tmp 1) 3) (ty := 0) (r := xb (decide (ILt (i) ((l.length : Int))))) (v := xb false) (by kernel_rfl) (congrArg (fun z => xb z) (decide_eq_false (by omega)))) trivial)) (by kernel_rfl)) (by kernel_rfl) ?_
  refine Wp.condF (by kernel_rfl) ?_
  refine Wp.exit ?_
  refine Eq.mpr (if_pos rfl) ?_
  refine Wp.seq ?_
  refine Wp.regionSeq [] [(2, .y (.one (.ptr n1 0))), (3, .y (.one (.ptr n2 0))), (5, .y (.one (cvi))), (7, xi 0)] H7
    (cast trivial (by kernel_rfl)) (by kernel_rfl) ?_
  refine Wp.block ?_
  refine Wp.loop (T := Go.Lg.Heap × Int × C) (fun (t : Go.Lg.Heap × Int × C) => match t with | (H20, j, cvj) => (((l.length : Int) - j).toNat : Nat)) (fun (t : Go.Lg.Heap × Int × C) => match t with | (H20, j, cvj) => ([(2, .y (.one (.ptr n1 0))), (3, .y (.one (.ptr n2 0))), (5, .y (.one (cvj))), (7, xi j)] : Env)) (fun (t : Go.Lg.Heap × Int × C) => match t with | (H20, j, cvj) => (H20 : Go.Lg.Heap))
    (fun (t : Go.Lg.Heap × Int × C) => match t with | (H20, j, cvj) => (On [pts n1 (.obj [vb true, sv TT5 rb rn rp l]), pts n2 (.obj [vi a.1, vi a.2.1]), ownP PD cvj (dlk1 l a ++ dlk2 (l.take (j : Int).toNat) a)] H20 ∧ (0 ≤ j) ∧ (j ≤ (l.length : Int)) ∧ (((dlk1 l a ++ dlk2 (l.take (j : Int).toNat) a).length : Int) ≤ (l.length : Int) + j) : Prop)) (H7, 0, cvi) (by kernel_rfl) (⟨(On.pick [0, 1, 2] [] (by kernel_rfl) (On.mono (A' := ownP PD cvi (dlk1 l a ++ dlk2 (l.take (0 : Int).toNat) a)) 2 rfl (fun _ x => by rw [← (show (dlk1 (l.take (i : Int).toNat) a) = (dlk1 l a ++ dlk2 (l.take (0 : Int).toNat) a) from by rw [take_all (by omega)]; simp [dlk2])]; exact x) hs8)), by omega, by omega, dlkj_len _ _ (Int.le_refl 0)⟩) ?_
  rintro ⟨H20, j, cvj⟩ ⟨hs21, hj1, hj2, hj3⟩
  show Wp _ _ _ _ [(2, .y (.one (.ptr n1 0))), (3, .y (.one (.ptr n2 0))), (5, .y (.one (cvj))), (7, xi j)] H20 _
  refine Wp.seq ?_
  rcases ilt (j) ((l.length : Int)) with c22 | c22
  ·
   refine Wp.regionSeq [(2, .y (.one (sv TT5 rb rn rp l)), H20), (4, xb true, H20)] [(2, .y (.one (.ptr n1 0))), (3, .y (.one (.ptr n2 0))), (5, .y (.one (cvj))), (7, xi j), (45, xb true)] H20
     (cast (And.intro (ob_load_ptr (P := pg) (A := an) (H := H20) (t := 35) (ty := 0) (id := n1) (off := 1) (n := 1) (cs := [vb true, sv TT5 rb rn rp l]) (cs' := [sv TT5 rb rn rp l]) (v := .one (sv TT5 rb rn rp l)) (On.at hs21 0 rfl) (by kernel_rfl) (by kernel_rfl) (by kernel_rfl) (by kernel_rfl)) (And.intro (ob_raw (P := pg) (A := an) (vals := [xi j, xi (l.length : Int)]) (H := H20) (op := .binOp .lss 3 (.tmp 0) (.tmp 1) 3) (ty := 0) (r := xb (decide (ILt (j) ((l.length : Int))))) (v := xb true) (by kernel_rfl) (congrArg (fun z => xb z) (decide_eq_true (by omega)))) trivial)) (by kernel_rfl)) (by kernel_rfl) ?_
   refine Wp.condT (by kernel_rfl) ?_
   refine Wp.skip ?_
   refine Wp.seq ?_
   refine Wp.block ?_
   obtain ⟨x23, hx23⟩ : ∃ x, l[(j : Int).toNat]? = some x := get_of (by omega)
   rcases ieq (x23.1) (0) with c24 | c24
   ·
    rcases Bool.eq_false_or_eq_true ((eqb PD x23.2.1 a)) with c25 | c25
    ·
     refine Wp.regionSeq [(1, .y (.one (sv TT5 rb rn rp l)), H20), (3, .y (.one (.rd ([vi x23.1, vi x23.2.1.1, vi x23.2.1.2.1, vi x23.2.2.1.1, vi x23.2.2.1.2.1] ++ (l.drop ((j : Int).toNat + 1)).flatMap (enc TT5)))), H20), (6, xb true, H20), (9, .y (.one (sv TT5 rb rn rp l)), H20), (11, .y (.one (.rd ([vi x23.1, vi x23.2.1.1, vi x23.2.1.2.1, vi x23.2.2.1.1, vi x23.2.2.1.2.1] ++ (l.drop ((j : Int).toNat + 1)).flatMap (enc TT5)))), H20), (14, .y (.agg [vi a.1, vi a.2.1]), H20), (15, xb true, H20)] [(2, .y (.one (.ptr n1 0))), (3, .y (.one (.ptr n2 0))), (5, .y (.one (cvj))), (7, xi j), (64, xb true)] H20
       (cast (And.intro (ob_load_ptr (P := pg) (A := an) (H := H20) (t := 35) (ty := 0) (id := n1) (off := 1) (n := 1) (cs := [vb true, sv TT5 rb rn rp l]) (cs' := [sv TT5 rb rn rp l]) (v := .one (sv TT5 rb rn rp l)) (On.at hs21 0 rfl) (by kernel_rfl) (by kernel_rfl) (by kernel_rfl) (by kernel_rfl)) (And.intro (ob_index (P := pg) (A := an) (H := H20) (s := TT5) (b := rb) (nil := rn) (capd := rp) (t := 35) (el := 41) (i := j) Try.underlying35 (by kernel_rfl) (by kernel_rfl) (by omega) hx23) (And.intro (ob_raw (P := pg) (A := an) (vals := [xi x23.1, xi 0]) (H := H20) (op := .binOp .eql 3 (.tmp 0) (.tmp 1) 3) (ty := 0) (r := xb (beqI (x23.1) (0))) (v := xb true) (by kernel_rfl) (congrArg (fun z => xb z) (beq_t (by omega)))) (And.intro (ob_load_ptr (P := pg) (A := an) (H := H20) (t := 35) (ty := 0) (id := n1) (off := 1) (n := 1) (cs := [vb true, sv TT5 rb rn rp l]) (cs' := [sv TT5 rb rn rp l]) (v := .one (sv TT5 rb rn rp l)) (On.at hs21 0 rfl) (by kernel_rfl) (by kernel_rfl) (by kernel_rfl) (by kernel_rfl)) (And.intro (ob_index (P := pg) (A := an) (H := H20) (s := TT5) (b := rb) (nil := rn) (capd := rp) (t := 35) (el := 41) (i := j) Try.underlying35 (by kernel_rfl) (by kernel_rfl) (by omega) hx23) (And.intro (ob_load_ptr (P := pg) (A := an) (H := H20) (t := 24) (ty := 0) (id := n2) (off := 0) (n := 2) (cs := [vi a.1, vi a.2.1]) (cs' := [vi a.1, vi a.2.1]) (v := .agg [vi a.1, vi a.2.1]) (On.at hs21 1 rfl) (by kernel_rfl) (by kernel_rfl) (by kernel_rfl) (by kernel_rfl)) (And.intro (ob_eq_agg (P := pg) (A := an) (H := H20) (s := PD) (t := 24) (u := 24) (ty := 0) (x := x23.2.1) (y := a) (r := true) (by kernel_rfl) c25) trivial))))))) (by kernel_rfl)) (by kernel_rfl) ?_
     refine Wp.condT (by kernel_rfl) ?_
     obtain ⟨cv26, H27, ho28, hs29⟩ := or_append_own (P := pg) (A := an) (s := PD) (t := 32) (u := 32) (el := 24) (by_ := 16) (z := [vi 0, vi 0]) (ty := 0) (y := .sl false false true [vi x23.2.2.1.1, vi x23.2.2.1.2.1] 1) (lm := ([x23.2.2.1])) (m := 1) hs21 2 rfl ((slCells_slO (H := H20) (s := PD) (b := false) (nil := false) (capd := true) (l := [x23.2.2.1]) (n := 1) (by first | rfl | omega | (simp only [List.length_nil]; omega) | (simp; done) | (simp; omega)))) (by kernel_rfl) (by kernel_rfl) (by kernel_rfl) (by kernel_rfl) (by kernel_rfl) (by kernel_rfl) (by kernel_rfl) (by first | rfl | omega | (simp only [List.length_nil]; omega) | (simp; done) | (simp; omega)) (by omega) (by omega)
     have hs29l : (((dlk1 l a ++ dlk2 (l.take (j : Int).toNat) a) ++ ([x23.2.2.1])).length : Int) = (((dlk1 l a ++ dlk2 (l.take (j : Int).toNat) a).length : Int) + 1) := by { first | omega | (simp only [List.length_append]; omega) | (simp; done) | (simp; omega) }
     refine Wp.regionK [(2, .y (.one (sv TT5 rb rn rp l)), H20), (4, .y (.one (.rd ([vi x23.1, vi x23.2.1.1, vi x23.2.1.2.1, vi x23.2.2.1.1, vi x23.2.2.1.2.1] ++ (l.drop ((j : Int).toNat + 1)).flatMap (enc TT5)))), H20), (8, .y (.one (cv26)), H27)] [(2, .y (.one (.ptr n1 0))), (3, .y (.one (.ptr n2 0))), (5, .y (.one (cv26))), (7, xi j)] H27
       (cast (And.intro (ob_load_ptr (P := pg) (A := an) (H := H20) (t := 35) (ty := 0) (id := n1) (off := 1) (n := 1) (cs := [vb true, sv TT5 rb rn rp l]) (cs' := [sv TT5 rb rn rp l]) (v := .one (sv TT5 rb rn rp l)) (On.at hs21 0 rfl) (by kernel_rfl) (by kernel_rfl) (by kernel_rfl) (by kernel_rfl)) (And.intro (ob_index (P := pg) (A := an) (H := H20) (s := TT5) (b := rb) (nil := rn) (capd := rp) (t := 35) (el := 41) (i := j) Try.underlying35 (by kernel_rfl) (by kernel_rfl) (by omega) hx23) (And.intro ho28 trivial))) (by kernel_rfl)) (by kernel_rfl) ?_
     refine Wp.gen (cs := [pts n1 (.obj [vb true, sv TT5 rb rn rp l]), pts n2 (.obj [vi a.1, vi a.2.1]), ownP PD cv26 ((dlk1 l a ++ dlk2 (l.take (j : Int).toNat) a) ++ ([x23.2.2.1]))]) hs29 ?_
     intro H30 hs31
     refine Wp.skip ?_
     refine Wp.region [(1, xi (j + 1), H30)] [(2, .y (.one (.ptr n1 0))), (3, .y (.one (.ptr n2 0))), (5, .y (.one (cv26))), (7, xi (j + 1))] H30
       (cast (And.intro (ob_raw (P := pg) (A := an) (vals := [xi j, xi 1]) (H := H30) (op := .binOp .add 3 (.tmp 0) (.tmp 1) 3) (ty := 0) (r := xi (IntKind.wrap .i64 (j + 1))) (v := xi (j + 1)) (by kernel_rfl) (congrArg (fun z => xi z) ((wrap64 (by omega)).trans (by omega)))) trivial) (by kernel_rfl)) (by kernel_rfl) ?_
     exact ⟨(H30, (j + 1), cv26), by kernel_rfl, (⟨(On.pick [0, 1, 2] [] (by kernel_rfl) (On.mono (A' := ownP PD cv26 (dlk1 l a ++ dlk2 (l.take (j + 1 : Int).toNat) a)) 2 rfl (fun _ x => by rw [← (show ((dlk1 l a ++ dlk2 (l.take (j : Int).toNat) a) ++ ([x23.2.2.1])) = (dlk1 l a ++ dlk2 (l.take (j + 1 : Int).toNat) a) from app_yes (dlk2_yes (by omega) hx23 (by omega) c25))]; exact x) hs31)), by omega, by omega, dlkj_len _ _ (by omega)⟩), (by show (_ : Nat) < _; simp only []; omega)⟩
    ·
     refine Wp.regionSeq [(1, .y (.one (sv TT5 rb rn rp l)), H20), (3, .y (.one (.rd ([vi x23.1, vi x23.2.1.1, vi x23.2.1.2.1, vi x23.2.2.1.1, vi x23.2.2.1.2.1] ++ (l.drop ((j : Int).toNat + 1)).flatMap (enc TT5)))), H20), (6, xb true, H20), (9, .y (.one (sv TT5 rb rn rp l)), H20), (11, .y (.one (.rd ([vi x23.1, vi x23.2.1.1, vi x23.2.1.2.1, vi x23.2.2.1.1, vi x23.2.2.1.2.1] ++ (l.drop ((j : Int).toNat + 1)).flatMap (enc TT5)))), H20), (14, .y (.agg [vi a.1, vi a.2.1]), H20), (15, xb false, H20)] [(2, .y (.one (.ptr n1 0))), (3, .y (.one (.ptr n2 0))), (5, .y (.one (cvj))), (7, xi j), (64, xb false)] H20
       (cast (And.intro (ob_load_ptr (P := pg) (A := an) (H := H20) (t := 35) (ty := 0) (id := n1) (off := 1) (n := 1) (cs := [vb true, sv TT5 rb rn rp l]) (cs' := [sv TT5 rb rn rp l]) (v := .one (sv TT5 rb rn rp l)) (On.at hs21 0 rfl) (by kernel_rfl) (by kernel_rfl) (by kernel_rfl) (by kernel_rfl)) (And.intro (ob_index (P := pg) (A := an) (H := H20) (s := TT5) (b := rb) (nil := rn) (capd := rp) (t := 35) (el := 41) (i := j) Try.underlying35 (by kernel_rfl) (by kernel_rfl) (by omega) hx23) (And.intro (ob_raw (P := pg) (A := an) (vals := [xi x23.1, xi 0]) (H := H20) (op := .binOp .eql 3 (.tmp 0) (.tmp 1) 3) (ty := 0) (r := xb (beqI (x23.1) (0))) (v := xb true) (by kernel_rfl) (congrArg (fun z => xb z) (beq_t (by omega)))) (And.intro (ob_load_ptr (P := pg) (A := an) (H := H20) (t := 35) (ty := 0) (id := n1) (off := 1) (n := 1) (cs := [vb true, sv TT5 rb rn rp l]) (cs' := [sv TT5 rb rn rp l]) (v := .one (sv TT5 rb rn rp l)) (On.at hs21 0 rfl) (by kernel_rfl) (by kernel_rfl) (by kernel_rfl) (by kernel_rfl)) (And.intro (ob_index (P := pg) (A := an) (H := H20) (s := TT5) (b := rb) (nil := rn) (capd := rp) (t := 35) (el := 41) (i := j) Try.underlying35 (by kernel_rfl) (by kernel_rfl) (by omega) hx23) (And.intro (ob_load_ptr (P := pg) (A := an) (H := H20) (t := 24) (ty := 0) (id := n2) (off := 0) (n := 2) (cs := [vi a.1, vi a.2.1]) (cs' := [vi a.1, vi a.2.1]) (v := .agg [vi a.1, vi a.2.1]) (On.at hs21 1 rfl) (by kernel_rfl) (by kernel_rfl) (by kernel_rfl) (by kernel_rfl)) (And.intro (ob_eq_agg (P := pg) (A := an) (H := H20) (s := PD) (t := 24) (u := 24) (ty := 0) (x := x23.2.1) (y := a) (r := false) (by kernel_rfl) c25) trivial))))))) (by kernel_rfl)) (by kernel_rfl) ?_
     refine Wp.condF (by kernel_rfl) ?_
     refine Wp.skip ?_
     refine Wp.region [(1, xi (j + 1), H20)] [(2, .y (.one (.ptr n1 0))), (3, .y (.one (.ptr n2 0))), (5, .y (.one (cvj))), (7, xi (j + 1))] H20
       (cast (And.intro (ob_raw (P := pg) (A := an) (vals := [xi j, xi 1]) (H := H20) (op := .binOp .add 3 (.tmp 0) (.tmp 1) 3) (ty := 0) (r := xi (IntKind.wrap .i64 (j + 1))) (v := xi (j + 1)) (by kernel_rfl) (congrArg (fun z => xi z) ((wrap64 (by omega)).trans (by omega)))) trivial) (by kernel_rfl)) (by kernel_rfl) ?_
     exact ⟨(H20, (j + 1), cvj), by kernel_rfl, (⟨(On.pick [0, 1, 2] [] (by kernel_rfl) (On.mono (A' := ownP PD cvj (dlk1 l a ++ dlk2 (l.take (j + 1 : Int).toNat) a)) 2 rfl (fun _ x => by rw [← (show (dlk1 l a ++ dlk2 (l.take (j : Int).toNat) a) = (dlk1 l a ++ dlk2 (l.take (j + 1 : Int).toNat) a) from congrArg (dlk1 l a ++ ·) (dlk2_no (by omega) hx23 (.inr c25)))]; exact x) hs21)), by omega, by omega, dlkj_len _ _ (by omega)⟩), (by show (_ : Nat) < _; simp only []; omega)⟩
   ·
    refine Wp.regionSeq [(1, .y (.one (sv TT5 rb rn rp l)), H20), (3, .y (.one (.rd ([vi x23.1, vi x23.2.1.1, vi x23.2.1.2.1, vi x23.2.2.1.1, vi x23.2.2.1.2.1] ++ (l.drop ((j : Int).toNat + 1)).flatMap (enc TT5)))), H20), (6, xb false, H20)] [(2, .y (.one (.ptr n1 0))), (3, .y (.one (.ptr n2 0))), (5, .y (.one (cvj))), (7, xi j), (64, xb false)] H20
      (cast (And.intro (ob_load_ptr (P := pg) (A := an) (H := H20) (t := 35) (ty := 0) (id := n1) (off := 1) (n := 1) (cs := [vb true, sv TT5 rb rn rp l]) (cs' := [sv TT5 rb rn rp l]) (v := .one (sv TT5 rb rn rp l)) (On.at hs21 0 rfl) (by kernel_rfl) (by kernel_rfl) (by kernel_rfl) (by kernel_rfl)) (And.intro (ob_index (P := pg) (A := an) (H := H20) (s := TT5) (b := rb) (nil := rn) (capd := rp) (t := 35) (el := 41) (i := j) Try.underlying35 (by kernel_rfl) (by kernel_rfl) (by omega) hx23) (And.intro (ob_raw (P := pg) (A := an) (vals := [xi x23.1, xi 0]) (H := H20) (op := .binOp .eql 3 (.tmp 0) (.tmp 1) 3) (ty := 0) (r := xb (beqI (x23.1) (0))) (v := xb false) (by kernel_rfl) (congrArg (fun z => xb z) (beq_f (by omega)))) trivial))) (by kernel_rfl)) (by kernel_rfl) ?_
    refine Wp.condF (by kernel_rfl) ?_
    refine Wp.skip ?_
    refine Wp.region [(1, xi (j + 1), H20)] [(2, .y (.one (.ptr n1 0))), (3, .y (.one (.ptr n2 0))), (5, .y (.one (cvj))), (7, xi (j + 1))] H20
      (cast (And.intro (ob_raw (P := pg) (A := an) (vals := [xi j, xi 1]) (H := H20) (op := .binOp .add 3 (.tmp 0) (.tmp 1) 3) (ty := 0) (r := xi (IntKind.wrap .i64 (j + 1))) (v := xi (j + 1)) (by kernel_rfl) (congrArg (fun z => xi z) ((wrap64 (by omega)).trans (by omega)))) trivial) (by kernel_rfl)) (by kernel_rfl) ?_
    exact ⟨(H20, (j + 1), cvj), by kernel_rfl, (⟨(On.pick [0, 1, 2] [] (by kernel_rfl) (On.mono (A' := ownP PD cvj (dlk1 l a ++ dlk2 (l.take (j + 1 : Int).toNat) a)) 2 rfl (fun _ x => by rw [← (show (dlk1 l a ++ dlk2 (l.take (j : Int).toNat) a) = (dlk1 l a ++ dlk2 (l.take (j + 1 : Int).toNat) a) from congrArg (dlk1 l a ++ ·) (dlk2_no (by omega) hx23 (.inl (by omega))))]; exact x) hs21)), by omega, by omega, dlkj_len _ _ (by omega)⟩), (by show (_ : Nat) < _; simp only []; omega)⟩
  ·
   refine Wp.regionSeq [(2, .y (.one (sv TT5 rb rn rp l)), H20), (4, xb false, H20)] [(2, .y (.one (.ptr n1 0))), (3, .y (.one (.ptr n2 0))), (5, .y (.one (cvj))), (7, xi j), (45, xb false)] H20
     (cast (And.intro (ob_load_ptr (P := pg) (A := an) (H := H20) (t := 35) (ty := 0) (id := n1) (off := 1) (n := 1) (cs := [vb true, sv TT5 rb rn rp l]) (cs' := [sv TT5 rb rn rp l]) (v := .one (sv TT5 rb rn rp l)) (On.at hs21 0 rfl) (by kernel_rfl) (by kernel_rfl) (by kernel_rfl) (by kernel_rfl)) (And.intro (ob_raw (P := pg) (A := an) (vals := [xi j, xi (l.length : Int)]) (H := H20) (op := .binOp .lss 3 (.tmp 0) (.tmp 1) 3) (ty := 0) (r := xb (decide (ILt (j) ((l.length : Int))))) (v := xb false) (by kernel_rfl) (congrArg (fun z => xb z) (decide_eq_false (by omega)))) trivial)) (by kernel_rfl)) (by kernel_rfl) ?_
   refine Wp.condF (by kernel_rfl) ?_
   refine Wp.exit ?_
   refine Eq.mpr (if_pos rfl) ?_
   refine Wp.regionSeq [] [(4, .y (.one (cvj)))] H20
     (cast trivial (by kernel_rfl)) (by kernel_rfl) ?_
   refine Wp.ret ?_
   refine ⟨Or.inr rfl, [.one (cvj)], (by kernel_rfl), ?_⟩
   obtain ⟨fn32, fp33, hf34⟩ := own_back (On.mono (A' := ownP PD cvj (dlks l a)) 2 rfl (fun _ x => by rw [← (show (dlk1 l a ++ dlk2 (l.take (j : Int).toNat) a) = (dlks l a) from by rw [take_all (by omega)]; rfl)]; exact x) hs21) 2 rfl
   exact ⟨fn32, fp33, (back_cons (back_one hf34) rfl)⟩
theorem rload_bad (bz nz pz : Bool) (l : List TT5.T) (hl : (l.length : Int) ≤ 3518437208883) (hd : dmay l = false)  : PureC pg an 19 [.one (sv TT5 bz nz pz l)] [.agg [vb false, .sl false true true [] 0], .one (vi 1)] := by
 suffices h : ∃ rs H', Runs pg an 19 [.one (sv TT5 bz nz pz l)] [] rs H' ∧ rs.mapM (backY H') = some [.agg [vb false, .sl false true true [] 0], .one (vi 1)] by
  obtain ⟨rs, H', h1, h2⟩ := h
  exact ⟨rs, H', h1, h2⟩
 refine Runs.of (fn := Try.f19) Try.func19 rfl (by kernel_rfl) [(0, .y (.one (sv TT5 bz nz pz l)))] (by kernel_rfl) ?_
 obtain ⟨n1, hn1⟩ : ∃ n, n = List.length ([] : Go.Lg.Heap) := ⟨_, rfl⟩
 refine Wp.regionSeq [(0, .y (.one (.ptr n1 0)), ([] ++ [.obj [vb false, .sl false true true [] 0]]))] [(0, .y (.one (sv TT5 bz nz pz l))), (2, .y (.one (.ptr n1 0)))] ([] ++ [.obj [vb false, .sl false true true [] 0]])
   (cast (And.intro (ob_alloc (P := pg) (A := an) (H := []) (t := 48) (ty := 0) (n := n1) (cs := [vb false, .sl false true true [] 0]) hn1 (by kernel_rfl)) trivial) (by kernel_rfl)) (by kernel_rfl) ?_
 refine Wp.gen (cs := [pts n1 (.obj [vb false, .sl false true true [] 0])]) (On.new' hn1 (.obj [vb false, .sl false true true [] 0]) (On.nil [])) ?_
 intro H2 hs3
 refine Wp.seq ?_
 refine Wp.regionSeq [(1, xb false, H2)] [(0, .y (.one (sv TT5 bz nz pz l))), (2, .y (.one (.ptr n1 0))), (7, xb true)] H2
   (cast (And.intro (ob_pure (P := pg) (A := an) (H := H2) (g := 42) (vals := [.y (.one (sv TT5 bz nz pz l))]) (xs0 := [.one (sv TT5 bz nz pz l)]) (xs1 := [.one (sv TT5 bz nz pz l)]) (res := [.one (vb false)]) (ats := #[]) (ty := 0) (v := xb false) [.tmp 0] (by kernel_rfl) (by kernel_rfl) (snap_cons (by kernel_rfl) (snap_nil)) (by have h9 := rmay_ok bz nz pz l (by first | rfl | omega | (simp only [List.length_nil]; omega) | (simp; done) | (simp; omega)); rw [hd] at h9; exact h9) (by kernel_rfl)) trivial) (by kernel_rfl)) (by kernel_rfl) ?_
 refine Wp.condT (by kernel_rfl) ?_
 refine Wp.regionSeq [(1, .tup [], (List.set (α := O) H2 n1 (.obj [vb false, .sl false true true [] 0])))] [(2, .y (.one (.ptr n1 0))), (3, xi 1)] (List.set (α := O) H2 n1 (.obj [vb false, .sl false true true [] 0]))
   (cast (And.intro (ob_store_ptr (P := pg) (A := an) (H := H2) (t := 48) (ty := 0) (id := n1) (off := 0) (cs := [vb false, .sl false true true [] 0]) (cs' := [vb false, .sl false true true [] 0]) (v := .agg [vb false, .sl false true true [] 0]) (On.at hs3 0 rfl) (by kernel_rfl) (by kernel_rfl) (by kernel_rfl)) trivial) (by kernel_rfl)) (by kernel_rfl) ?_
 refine Wp.gen (cs := [pts n1 (.obj [vb false, .sl false true true [] 0])]) (On.put (.obj [vb false, .sl false true true [] 0]) hs3 0 rfl) ?_
 intro H4 hs5
 refine Wp.ret ?_
 refine ⟨Or.inr rfl, [.agg [vb false, .sl false true true [] 0], .one (vi 1)], (cast (res_cons (P := pg) (e := [(2, .y (.one (.ptr n1 0))), (3, xi 1)]) (H := H4) (res_cell (P := pg) (e := [(2, .y (.one (.ptr n1 0))), (3, xi 1)]) (H := H4) (a := 2) (t := 48) (id := n1) (off := 0) (n := 2) (cs := [vb false, .sl false true true [] 0]) (cs' := [vb false, .sl false true true [] 0]) (v := .agg [vb false, .sl false true true [] 0]) (by kernel_rfl) (by kernel_rfl) (On.at hs5 0 rfl) (by kernel_rfl) (by kernel_rfl) (by kernel_rfl)) (res_cons (P := pg) (e := [(2, .y (.one (.ptr n1 0))), (3, xi 1)]) (H := H4) (r := .tmp 3) (y := .one (vi 1)) (by kernel_rfl) res_nil)) (by kernel_rfl)), ?_⟩
 exact (by kernel_rfl)
theorem rload_ties (bz nz pz : Bool) (l : List TT5.T) (hl : (l.length : Int) ≤ 3518437208883) (hd : dmay l = true) (hn : (1024 : Int) < (l.length : Int))  : PureC pg an 19 [.one (sv TT5 bz nz pz l)] [.agg [vb false, .sl false true true [] 0], .one (vi 150)] := by
 suffices h : ∃ rs H', Runs pg an 19 [.one (sv TT5 bz nz pz l)] [] rs H' ∧ rs.mapM (backY H') = some [.agg [vb false, .sl false true true [] 0], .one (vi 150)] by
  obtain ⟨rs, H', h1, h2⟩ := h
  exact ⟨rs, H', h1, h2⟩
 refine Runs.of (fn := Try.f19) Try.func19 rfl (by kernel_rfl) [(0, .y (.one (sv TT5 bz nz pz l)))] (by kernel_rfl) ?_
 obtain ⟨n1, hn1⟩ : ∃ n, n = List.length ([] : Go.Lg.Heap) := ⟨_, rfl⟩
 refine Wp.regionSeq [(0, .y (.one (.ptr n1 0)), ([] ++ [.obj [vb false, .sl false true true [] 0]]))] [(0, .y (.one (sv TT5 bz nz pz l))), (2, .y (.one (.ptr n1 0)))] ([] ++ [.obj [vb false, .sl false true true [] 0]])
   (cast (And.intro (ob_alloc (P := pg) (A := an) (H := []) (t := 48) (ty := 0) (n := n1) (cs := [vb false, .sl false true true [] 0]) hn1 (by kernel_rfl)) trivial) (by kernel_rfl)) (by kernel_rfl) ?_
 refine Wp.gen (cs := [pts n1 (.obj [vb false, .sl false true true [] 0])]) (On.new' hn1 (.obj [vb false, .sl false true true [] 0]) (On.nil [])) ?_
 intro H2 hs3
 refine Wp.seq ?_
 refine Wp.regionSeq [(1, xb true, H2)] [(0, .y (.one (sv TT5 bz nz pz l))), (2, .y (.one (.ptr n1 0))), (7, xb false)] H2
   (cast (And.intro (ob_pure (P := pg) (A := an) (H := H2) (g := 42) (vals := [.y (.one (sv TT5 bz nz pz l))]) (xs0 := [.one (sv TT5 bz nz pz l)]) (xs1 := [.one (sv TT5 bz nz pz l)]) (res := [.one (vb true)]) (ats := #[]) (ty := 0) (v := xb true) [.tmp 0] (by kernel_rfl) (by kernel_rfl) (snap_cons (by kernel_rfl) (snap_nil)) (by have h9 := rmay_ok bz nz pz l (by first | rfl | omega | (simp only [List.length_nil]; omega) | (simp; done) | (simp; omega)); rw [hd] at h9; exact h9) (by kernel_rfl)) trivial) (by kernel_rfl)) (by kernel_rfl) ?_
 refine Wp.condF (by kernel_rfl) ?_
 refine Wp.skip ?_
 refine Wp.seq ?_
 refine Wp.regionSeq [(2, xb true, H2)] [(0, .y (.one (sv TT5 bz nz pz l))), (2, .y (.one (.ptr n1 0))), (11, xb true)] H2
   (cast (And.intro (ob_raw (P := pg) (A := an) (vals := [xi (l.length : Int), xi 1024]) (H := H2) (op := .binOp .gtr 3 (.tmp 0) (.tmp 1) 3) (ty := 0) (r := xb (decide (ILt (1024) ((l.length : Int))))) (v := xb true) (by kernel_rfl) (congrArg (fun z => xb z) (decide_eq_true (by omega)))) trivial) (by kernel_rfl)) (by kernel_rfl) ?_
 refine Wp.condT (by kernel_rfl) ?_
 refine Wp.regionSeq [(1, .tup [], (List.set (α := O) H2 n1 (.obj [vb false, .sl false true true [] 0])))] [(2, .y (.one (.ptr n1 0))), (3, xi 150)] (List.set (α := O) H2 n1 (.obj [vb false, .sl false true true [] 0]))
   (cast (And.intro (ob_store_ptr (P := pg) (A := an) (H := H2) (t := 48) (ty := 0) (id := n1) (off := 0) (cs := [vb false, .sl false true true [] 0]) (cs' := [vb false, .sl false true true [] 0]) (v := .agg [vb false, .sl false true true [] 0]) (On.at hs3 0 rfl) (by kernel_rfl) (by kernel_rfl) (by kernel_rfl)) trivial) (by kernel_rfl)) (by kernel_rfl) ?_
 refine Wp.gen (cs := [pts n1 (.obj [vb false, .sl false true true [] 0])]) (On.put (.obj [vb false, .sl false true true [] 0]) hs3 0 rfl) ?_
 intro H4 hs5
 refine Wp.ret ?_
 refine ⟨Or.inr rfl, [.agg [vb false, .sl false true true [] 0], .one (vi 150)], (cast (res_cons (P := pg) (e := [(2, .y (.one (.ptr n1 0))), (3, xi 150)]) (H := H4) (res_cell (P := pg) (e := [(2, .y (.one (.ptr n1 0))), (3, xi 150)]) (H := H4) (a := 2) (t := 48) (id := n1) (off := 0) (n := 2) (cs := [vb false, .sl false true true [] 0]) (cs' := [vb false, .sl false true true [] 0]) (v := .agg [vb false, .sl false true true [] 0]) (by kernel_rfl) (by kernel_rfl) (On.at hs5 0 rfl) (by kernel_rfl) (by kernel_rfl) (by kernel_rfl)) (res_cons (P := pg) (e := [(2, .y (.one (.ptr n1 0))), (3, xi 150)]) (H := H4) (r := .tmp 3) (y := .one (vi 150)) (by kernel_rfl) res_nil)) (by kernel_rfl)), ?_⟩
 exact (by kernel_rfl)
theorem rload_ok (bz nz pz : Bool) (l : List TT5.T) (hl : (l.length : Int) ≤ 3518437208883) (hd : dmay l = true) (hn : (l.length : Int) ≤ 1024)  : ∃ n : Bool, ∃ p : Bool, PureC pg an 19 [.one (sv TT5 bz nz pz l)] [.agg [vb true, sv TT5 false n p l], .one (vi 0)] := by
 suffices h : ∃ rs H', Runs pg an 19 [.one (sv TT5 bz nz pz l)] [] rs H' ∧ ∃ n : Bool, ∃ p : Bool, rs.mapM (backY H') = some [.agg [vb true, sv TT5 false n p l], .one (vi 0)] by
  obtain ⟨rs, H', h1, n, p, h2⟩ := h
  exact ⟨n, p, rs, H', h1, h2⟩
 refine Runs.of (fn := Try.f19) Try.func19 rfl (by kernel_rfl) [(0, .y (.one (sv TT5 bz nz pz l)))] (by kernel_rfl) ?_
 obtain ⟨n1, hn1⟩ : ∃ n, n = List.length ([] : Go.Lg.Heap) := ⟨_, rfl⟩
 refine Wp.regionSeq [(0, .y (.one (.ptr n1 0)), ([] ++ [.obj [vb false, .sl false true true [] 0]]))] [(0, .y (.one (sv TT5 bz nz pz l))), (2, .y (.one (.ptr n1 0)))] ([] ++ [.obj [vb false, .sl false true true [] 0]])
   (cast (And.intro (ob_alloc (P := pg) (A := an) (H := []) (t := 48) (ty := 0) (n := n1) (cs := [vb false, .sl false true true [] 0]) hn1 (by kernel_rfl)) trivial) (by kernel_rfl)) (by kernel_rfl) ?_
 refine Wp.gen (cs := [pts n1 (.obj [vb false, .sl false true true [] 0])]) (On.new' hn1 (.obj [vb false, .sl false true true [] 0]) (On.nil [])) ?_
 intro H2 hs3
 refine Wp.seq ?_
 refine Wp.regionSeq [(1, xb true, H2)] [(0, .y (.one (sv TT5 bz nz pz l))), (2, .y (.one (.ptr n1 0))), (7, xb false)] H2
   (cast (And.intro (ob_pure (P := pg) (A := an) (H := H2) (g := 42) (vals := [.y (.one (sv TT5 bz nz pz l))]) (xs0 := [.one (sv TT5 bz nz pz l)]) (xs1 := [.one (sv TT5 bz nz pz l)]) (res := [.one (vb true)]) (ats := #[]) (ty := 0) (v := xb true) [.tmp 0] (by kernel_rfl) (by kernel_rfl) (snap_cons (by kernel_rfl) (snap_nil)) (by have h9 := rmay_ok bz nz pz l (by first | rfl | omega | (simp only [List.length_nil]; omega) | (simp; done) | (simp; omega)); rw [hd] at h9; exact h9) (by kernel_rfl)) trivial) (by kernel_rfl)) (by kernel_rfl) ?_
 refine Wp.condF (by kernel_rfl) ?_
 refine Wp.skip ?_
 refine Wp.seq ?_
 refine Wp.regionSeq [(2, xb false, H2)] [(0, .y (.one (sv TT5 bz nz pz l))), (2, .y (.one (.ptr n1 0))), (11, xb false)] H2
   (cast (And.intro (ob_raw (P := pg) (A := an) (vals := [xi (l.length : Int), xi 1024]) (H := H2) (op := .binOp .gtr 3 (.tmp 0) (.tmp 1) 3) (ty := 0) (r := xb (decide (ILt (1024) ((l.length : Int))))) (v := xb false) (by kernel_rfl) (congrArg (fun z => xb z) (decide_eq_false (by omega)))) trivial) (by kernel_rfl)) (by kernel_rfl) ?_
 refine Wp.condF (by kernel_rfl) ?_
 refine Wp.skip ?_
 obtain ⟨n4, hn4⟩ : ∃ n, n = List.length (H2 : Go.Lg.Heap) := ⟨_, rfl⟩
 refine Wp.regionSeq [(1, .y (.one (.ptr n4 0)), (H2 ++ [.obj [vb false, .sl false true true [] 0]])), (2, .tup [], (List.set (α := O) (H2 ++ [.obj [vb false, .sl false true true [] 0]]) n4 (.obj [vb true, .sl false true true [] 0])))] [(0, .y (.one (sv TT5 bz nz pz l))), (2, .y (.one (.ptr n1 0))), (4, .y (.one (.ptr n4 0)))] (List.set (α := O) (H2 ++ [.obj [vb false, .sl false true true [] 0]]) n4 (.obj [vb true, .sl false true true [] 0]))
   (cast (And.intro (ob_alloc (P := pg) (A := an) (H := H2) (t := 48) (ty := 0) (n := n4) (cs := [vb false, .sl false true true [] 0]) hn4 (by kernel_rfl)) (And.intro (ob_store_ptr (P := pg) (A := an) (H := (H2 ++ [.obj [vb false, .sl false true true [] 0]])) (t := 48) (ty := 0) (id := n4) (off := 0) (cs := [vb false, .sl false true true [] 0]) (cs' := [vb true, .sl false true true [] 0]) (v := .agg [vb true, .sl false true true [] 0]) (On.at (On.new' hn4 (.obj [vb false, .sl false true true [] 0]) hs3) 1 rfl) (by kernel_rfl) (by kernel_rfl) (by kernel_rfl)) trivial)) (by kernel_rfl)) (by kernel_rfl) ?_
 refine Wp.gen (cs := [pts n1 (.obj [vb false, .sl false true true [] 0]), pts n4 (.obj [vb true, .sl false true true [] 0])]) (On.put (.obj [vb true, .sl false true true [] 0]) (On.new' hn4 (.obj [vb false, .sl false true true [] 0]) hs3) 1 rfl) ?_
 intro H5 hs6
 obtain ⟨cv7, H8, ho9, hs10⟩ := or_append_onil (P := pg) (A := an) (s := TT5) (t := 35) (u := 35) (el := 41) (by_ := 40) (z := [vi 0, vi 0, vi 0, vi 0, vi 0]) (ty := 0) (y := sv TT5 bz nz pz l) (lm := l) (m := l.length) hs6 ((slCells_slO (H := H5) (s := TT5) (b := bz) (nil := nz) (capd := pz) (l := l) (n := l.length) (by first | rfl | omega | (simp only [List.length_nil]; omega) | (simp; done) | (simp; omega)))) (by kernel_rfl) (by kernel_rfl) (by kernel_rfl) (by kernel_rfl) (by kernel_rfl) (by kernel_rfl) (by kernel_rfl) (by first | rfl | omega | (simp only [List.length_nil]; omega) | (simp; done) | (simp; omega)) (by omega) (by omega)
 have hs10l : (l.length : Int) = (l.length : Int) := by { first | omega | (simp only [List.length_append]; omega) | (simp; done) | (simp; omega) }
 have hv11 : C.live cv7 = true := own_live hs10 2 rfl
 refine Wp.regionSeq [(1, .y (.one (.sl false true true [] 0)), H5), (3, .y (.one (cv7)), H8), (5, .tup [], (List.set (α := O) H8 n4 (.obj [vb true, cv7])))] [(2, .y (.one (.ptr n1 0))), (4, .y (.one (.ptr n4 0)))] (List.set (α := O) H8 n4 (.obj [vb true, cv7]))
   (cast (And.intro (ob_load_ptr (P := pg) (A := an) (H := H5) (t := 35) (ty := 0) (id := n4) (off := 1) (n := 1) (cs := [vb true, .sl false true true [] 0]) (cs' := [.sl false true true [] 0]) (v := .one (.sl false true true [] 0)) (On.at hs6 1 rfl) (by kernel_rfl) (by kernel_rfl) (by kernel_rfl) (by kernel_rfl)) (And.intro ho9 (And.intro (ob_store_live (P := pg) (A := an) (H := H8) (t := 35) (ty := 0) (id := n4) (off := 1) (cs := [vb true, .sl false true true [] 0]) (cs' := [vb true, cv7]) (v := .one (cv7)) (On.at hs10 1 rfl) (by kernel_rfl) (live_cons hv11 live_nil) (by kernel_rfl) (by kernel_rfl)) trivial))) (by kernel_rfl)) (by kernel_rfl) ?_
 refine Wp.gen (cs := [pts n1 (.obj [vb false, .sl false true true [] 0]), pts n4 (.obj [vb true, cv7]), ownP TT5 cv7 l]) (On.put (.obj [vb true, cv7]) hs10 1 rfl) ?_
 intro H12 hs13
 refine Wp.regionSeq [(0, .y (.agg [vb true, cv7]), H12), (1, .tup [], (List.set (α := O) H12 n1 (.obj [vb true, cv7])))] [(2, .y (.one (.ptr n1 0))), (3, xi 0)] (List.set (α := O) H12 n1 (.obj [vb true, cv7]))
   (cast (And.intro (ob_load_ptr (P := pg) (A := an) (H := H12) (t := 48) (ty := 0) (id := n4) (off := 0) (n := 2) (cs := [vb true, cv7]) (cs' := [vb true, cv7]) (v := .agg [vb true, cv7]) (On.at hs13 1 rfl) (by kernel_rfl) (by kernel_rfl) (by kernel_rfl) (by kernel_rfl)) (And.intro (ob_store_live (P := pg) (A := an) (H := H12) (t := 48) (ty := 0) (id := n1) (off := 0) (cs := [vb false, .sl false true true [] 0]) (cs' := [vb true, cv7]) (v := .agg [vb true, cv7]) (On.at hs13 0 rfl) (by kernel_rfl) (live_cons rfl (live_cons hv11 live_nil)) (by kernel_rfl) (by kernel_rfl)) trivial)) (by kernel_rfl)) (by kernel_rfl) ?_
 refine Wp.gen (cs := [pts n1 (.obj [vb true, cv7]), pts n4 (.obj [vb true, cv7]), ownP TT5 cv7 l]) (On.put (.obj [vb true, cv7]) hs13 0 rfl) ?_
 intro H14 hs15
 refine Wp.ret ?_
 refine ⟨Or.inr rfl, [.agg [vb true, cv7], .one (vi 0)], (cast (res_cons (P := pg) (e := [(2, .y (.one (.ptr n1 0))), (3, xi 0)]) (H := H14) (res_cell (P := pg) (e := [(2, .y (.one (.ptr n1 0))), (3, xi 0)]) (H := H14) (a := 2) (t := 48) (id := n1) (off := 0) (n := 2) (cs := [vb true, cv7]) (cs' := [vb true, cv7]) (v := .agg [vb true, cv7]) (by kernel_rfl) (by kernel_rfl) (On.at hs15 0 rfl) (by kernel_rfl) (by kernel_rfl) (by kernel_rfl)) (res_cons (P := pg) (e := [(2, .y (.one (.ptr n1 0))), (3, xi 0)]) (H := H14) (r := .tmp 3) (y := .one (vi 0)) (by kernel_rfl) res_nil)) (by kernel_rfl)), ?_⟩
 obtain ⟨fn16, fp17, hf18⟩ := own_back hs15 2 rfl
 exact ⟨fn16, fp17, (back_cons (back_agg (mapM_cons' (by kernel_rfl) (mapM_cons' hf18 mapM_nil'))) (back_cons (by kernel_rfl) rfl))⟩
end Go.Proofs.Ytjhgjbagmkiibaa.E
