/-
  Ties: in, SamePids, Same, slices.Equal. (Printed by sx/r15t.py.)
-/
import Derived.Test.YtjhgjbagmkiibaaR15EC
section
namespace Go.Proofs.Ytjhgjbagmkiibaa.E
open Go.Lg
set_option linter.unusedVariables false
set_option maxRecDepth 100000
set_option maxHeartbeats 8000000
set_option linter.unusedSimpArgs false
def sameB (s : Sh) : List s.T → List s.T → Bool
  | [], [] => true
  | x :: l, y :: r => eqb s x y && sameB s l r
  | _, _ => false
theorem sameB_iff {s : Sh} (hf : plainS s = true) : ∀ {l r : List s.T}, sameB s l r = true ↔ l = r
  | [], [] => by simp [sameB]
  | [], y :: r => by simp [sameB]
  | x :: l, [] => by simp [sameB]
  | x :: l, y :: r => by
    unfold sameB
    rw [Bool.and_eq_true, sameB_iff hf, List.cons.injEq, eqb_iff hf]
theorem sameT {s : Sh} (hf : plainS s = true) {l r : List s.T} {i : Int} (hi : (l.length : Int) ≤ i) (hn : (l.length : Int) = (r.length : Int)) (h : l.take i.toNat = r.take i.toNat) : true = sameB s l r := by
  rw [List.take_of_length_le (by omega), List.take_of_length_le (by omega)] at h
  exact ((sameB_iff hf).2 h).symm
theorem sameF {s : Sh} (hf : plainS s = true) {l r : List s.T} (h : l ≠ r) : false = sameB s l r := by
  cases e : sameB s l r with
  | false => rfl
  | true => exact absurd ((sameB_iff hf).1 e) h
theorem same_next {s : Sh} (hf : plainS s = true) {a b : List s.T} {i : Int} {x y : s.T} (h0 : 0 ≤ i) (h : a.take i.toNat = b.take i.toNat) (hx : a[i.toNat]? = some x) (hy : b[i.toNat]? = some y) (e : eqb s x y = true) : a.take (i + 1).toNat = b.take (i + 1).toNat := by
  rw [show (i + 1).toNat = i.toNat + 1 by omega, List.take_add_one, List.take_add_one, h, hx, hy, eqb_eq hf e]
theorem same_not {s : Sh} (hf : plainS s = true) {a b : List s.T} {i : Int} {x y : s.T} (hx : a[i.toNat]? = some x) (hy : b[i.toNat]? = some y) (e : eqb s x y = false) : a ≠ b := by
  rintro rfl
  rw [hx] at hy
  cases hy
  rw [eqb_refl hf] at e
  cases e
theorem samepids_ok (bz nz pz by_ ny py : Bool) (l r : List PD.T) (hl : (l.length : Int) ≤ 70368744177664) (hr : (r.length : Int) ≤ 70368744177664)  : PureC pg an 14 [.one (sv PD bz nz pz l), .one (sv PD by_ ny py r)] [.one (vb (sameB PD l r))] := by
 suffices h : ∃ rs H', Runs pg an 14 [.one (sv PD bz nz pz l), .one (sv PD by_ ny py r)] [] rs H' ∧ rs.mapM (backY H') = some [.one (vb (sameB PD l r))] by
  obtain ⟨rs, H', h1, h2⟩ := h
  exact ⟨rs, H', h1, h2⟩
 refine Runs.of (fn := Try.f14) Try.func14 rfl (by kernel_rfl) [(0, .y (.one (sv PD bz nz pz l))), (1, .y (.one (sv PD by_ ny py r)))] (by kernel_rfl) ?_
 refine Wp.regionSeq [] [(0, .y (.one (sv PD bz nz pz l))), (1, .y (.one (sv PD by_ ny py r)))] []
   (cast trivial (by kernel_rfl)) (by kernel_rfl) ?_
 refine Wp.seq ?_
 rcases ieq ((l.length : Int)) ((r.length : Int)) with c1 | c1
 ·
  refine Wp.regionSeq [(4, xb false, [])] [(0, .y (.one (sv PD bz nz pz l))), (1, .y (.one (sv PD by_ ny py r))), (10, xb false)] []
    (cast (And.intro (ob_raw (P := pg) (A := an) (vals := [xi (l.length : Int), xi (r.length : Int)]) (H := []) (op := .binOp .neq 3 (.tmp 0) (.tmp 1) 3) (ty := 0) (r := xb (bneI ((l.length : Int)) ((r.length : Int)))) (v := xb false) (by kernel_rfl) (congrArg (fun z => xb z) (bne_f (by omega)))) trivial) (by kernel_rfl)) (by kernel_rfl) ?_
  refine Wp.condF (by kernel_rfl) ?_
  refine Wp.skip ?_
  refine Wp.seq ?_
  refine Wp.regionSeq [] [(0, .y (.one (sv PD bz nz pz l))), (1, .y (.one (sv PD by_ ny py r))), (5, xi 0)] []
    (cast trivial (by kernel_rfl)) (by kernel_rfl) ?_
  refine Wp.block ?_
  refine Wp.loop (T := Go.Lg.Heap × Int) (fun (t : Go.Lg.Heap × Int) => match t with | (H3, i) => (((l.length : Int) - i).toNat : Nat)) (fun (t : Go.Lg.Heap × Int) => match t with | (H3, i) => ([(0, .y (.one (sv PD bz nz pz l))), (1, .y (.one (sv PD by_ ny py r))), (5, xi i)] : Env)) (fun (t : Go.Lg.Heap × Int) => match t with | (H3, i) => (H3 : Go.Lg.Heap))
    (fun (t : Go.Lg.Heap × Int) => match t with | (H3, i) => (On [] H3 ∧ (0 ≤ i) ∧ (i ≤ (l.length : Int)) ∧ (l.take i.toNat = r.take i.toNat) : Prop)) ([], 0) (by kernel_rfl) (⟨(On.pick [] [] (by kernel_rfl) (On.nil [])), by omega, by omega, by simp⟩) ?_
  rintro ⟨H3, i⟩ ⟨hs4, h1, h2, h3⟩
  show Wp _ _ _ _ [(0, .y (.one (sv PD bz nz pz l))), (1, .y (.one (sv PD by_ ny py r))), (5, xi i)] H3 _
  refine Wp.seq ?_
  rcases ilt (i) ((l.length : Int)) with c5 | c5
  ·
   refine Wp.regionSeq [(3, xb true, H3)] [(0, .y (.one (sv PD bz nz pz l))), (1, .y (.one (sv PD by_ ny py r))), (5, xi i), (14, xb true)] H3
     (cast (And.intro (ob_raw (P := pg) (A := an) (vals := [xi i, xi (l.length : Int)]) (H := H3) (op := .binOp .lss 3 (.tmp 0) (.tmp 1) 3) (ty := 0) (r := xb (decide (ILt (i) ((l.length : Int))))) (v := xb true) (by kernel_rfl) (congrArg (fun z => xb z) (decide_eq_true (by omega)))) trivial) (by kernel_rfl)) (by kernel_rfl) ?_
   refine Wp.condT (by kernel_rfl) ?_
   refine Wp.skip ?_
   refine Wp.seq ?_
   refine Wp.block ?_
   obtain ⟨x6, hx6⟩ : ∃ x, l[(i : Int).toNat]? = some x := get_of (by omega)
   obtain ⟨x7, hx7⟩ : ∃ x, r[(i : Int).toNat]? = some x := get_of (by omega)
   rcases Bool.eq_false_or_eq_true ((eqb PD x6 x7)) with c8 | c8
   ·
    refine Wp.regionSeq [(2, .y (.one (.rd ([vi x6.1, vi x6.2.1] ++ (l.drop ((i : Int).toNat + 1)).flatMap (enc PD)))), H3), (6, .y (.one (.rd ([vi x7.1, vi x7.2.1] ++ (r.drop ((i : Int).toNat + 1)).flatMap (enc PD)))), H3), (8, xb false, H3)] [(0, .y (.one (sv PD bz nz pz l))), (1, .y (.one (sv PD by_ ny py r))), (5, xi i), (25, xb false)] H3
      (cast (And.intro (ob_index (P := pg) (A := an) (H := H3) (s := PD) (b := bz) (nil := nz) (capd := pz) (t := 32) (el := 24) (i := i) Try.underlying32 (by kernel_rfl) (by kernel_rfl) (by omega) hx6) (And.intro (ob_index (P := pg) (A := an) (H := H3) (s := PD) (b := by_) (nil := ny) (capd := py) (t := 32) (el := 24) (i := i) Try.underlying32 (by kernel_rfl) (by kernel_rfl) (by omega) hx7) (And.intro (ob_neq_agg (P := pg) (A := an) (H := H3) (s := PD) (t := 24) (u := 24) (ty := 0) (x := x6) (y := x7) (r := false) (by kernel_rfl) c8) trivial))) (by kernel_rfl)) (by kernel_rfl) ?_
    refine Wp.condF (by kernel_rfl) ?_
    refine Wp.skip ?_
    refine Wp.region [(1, xi (i + 1), H3)] [(0, .y (.one (sv PD bz nz pz l))), (1, .y (.one (sv PD by_ ny py r))), (5, xi (i + 1))] H3
      (cast (And.intro (ob_raw (P := pg) (A := an) (vals := [xi i, xi 1]) (H := H3) (op := .binOp .add 3 (.tmp 0) (.tmp 1) 3) (ty := 0) (r := xi (IntKind.wrap .i64 (i + 1))) (v := xi (i + 1)) (by kernel_rfl) (congrArg (fun z => xi z) ((wrap64 (by omega)).trans (by omega)))) trivial) (by kernel_rfl)) (by kernel_rfl) ?_
    exact ⟨(H3, (i + 1)), by kernel_rfl, (⟨(On.pick [] [] (by kernel_rfl) hs4), by omega, by omega, same_next rfl (by omega) h3 hx6 hx7 c8⟩), (by show (_ : Nat) < _; simp only []; omega)⟩
   ·
    refine Wp.regionSeq [(2, .y (.one (.rd ([vi x6.1, vi x6.2.1] ++ (l.drop ((i : Int).toNat + 1)).flatMap (enc PD)))), H3), (6, .y (.one (.rd ([vi x7.1, vi x7.2.1] ++ (r.drop ((i : Int).toNat + 1)).flatMap (enc PD)))), H3), (8, xb true, H3)] [(0, .y (.one (sv PD bz nz pz l))), (1, .y (.one (sv PD by_ ny py r))), (5, xi i), (25, xb true)] H3
      (cast (And.intro (ob_index (P := pg) (A := an) (H := H3) (s := PD) (b := bz) (nil := nz) (capd := pz) (t := 32) (el := 24) (i := i) Try.underlying32 (by kernel_rfl) (by kernel_rfl) (by omega) hx6) (And.intro (ob_index (P := pg) (A := an) (H := H3) (s := PD) (b := by_) (nil := ny) (capd := py) (t := 32) (el := 24) (i := i) Try.underlying32 (by kernel_rfl) (by kernel_rfl) (by omega) hx7) (And.intro (ob_neq_agg (P := pg) (A := an) (H := H3) (s := PD) (t := 24) (u := 24) (ty := 0) (x := x6) (y := x7) (r := true) (by kernel_rfl) c8) trivial))) (by kernel_rfl)) (by kernel_rfl) ?_
    refine Wp.condT (by kernel_rfl) ?_
    refine Wp.regionSeq [] [(4, xb false)] H3
      (cast trivial (by kernel_rfl)) (by kernel_rfl) ?_
    refine Wp.ret ?_
    refine ⟨Or.inr rfl, [.one (vb false)], (by kernel_rfl), ?_⟩
    rw [show [Y.one (vb (sameB PD l r))] = [.one (vb false)] from congrArg (fun z => [Y.one (vb z)]) (sameF rfl (same_not rfl hx6 hx7 c8)).symm]
    exact (by kernel_rfl)
  ·
   refine Wp.regionSeq [(3, xb false, H3)] [(0, .y (.one (sv PD bz nz pz l))), (1, .y (.one (sv PD by_ ny py r))), (5, xi i), (14, xb false)] H3
     (cast (And.intro (ob_raw (P := pg) (A := an) (vals := [xi i, xi (l.length : Int)]) (H := H3) (op := .binOp .lss 3 (.tmp 0) (.tmp 1) 3) (ty := 0) (r := xb (decide (ILt (i) ((l.length : Int))))) (v := xb false) (by kernel_rfl) (congrArg (fun z => xb z) (decide_eq_false (by omega)))) trivial) (by kernel_rfl)) (by kernel_rfl) ?_
   refine Wp.condF (by kernel_rfl) ?_
   refine Wp.exit ?_
   refine Eq.mpr (if_pos rfl) ?_
   refine Wp.regionSeq [] [(4, xb true)] H3
     (cast trivial (by kernel_rfl)) (by kernel_rfl) ?_
   refine Wp.ret ?_
   refine ⟨Or.inr rfl, [.one (vb true)], (by kernel_rfl), ?_⟩
   rw [show [Y.one (vb (sameB PD l r))] = [.one (vb true)] from congrArg (fun z => [Y.one (vb z)]) (sameT rfl (by omega) (by omega) h3).symm]
   exact (by kernel_rfl)
 ·
  refine Wp.regionSeq [(4, xb true, [])] [(0, .y (.one (sv PD bz nz pz l))), (1, .y (.one (sv PD by_ ny py r))), (10, xb true)] []
    (cast (And.intro (ob_raw (P := pg) (A := an) (vals := [xi (l.length : Int), xi (r.length : Int)]) (H := []) (op := .binOp .neq 3 (.tmp 0) (.tmp 1) 3) (ty := 0) (r := xb (bneI ((l.length : Int)) ((r.length : Int)))) (v := xb true) (by kernel_rfl) (congrArg (fun z => xb z) (bne_t (by omega)))) trivial) (by kernel_rfl)) (by kernel_rfl) ?_
  refine Wp.condT (by kernel_rfl) ?_
  refine Wp.regionSeq [] [(4, xb false)] []
    (cast trivial (by kernel_rfl)) (by kernel_rfl) ?_
  refine Wp.ret ?_
  refine ⟨Or.inr rfl, [.one (vb false)], (by kernel_rfl), ?_⟩
  rw [show [Y.one (vb (sameB PD l r))] = [.one (vb false)] from congrArg (fun z => [Y.one (vb z)]) (sameF rfl (fun he => by have h9 := congrArg List.length he; omega)).symm]
  exact (by kernel_rfl)
theorem same_ok (bz nz pz by_ ny py : Bool) (l r : List TT5.T) (hl : (l.length : Int) ≤ 70368744177664) (hr : (r.length : Int) ≤ 70368744177664)  : PureC pg an 20 [.one (sv TT5 bz nz pz l), .one (sv TT5 by_ ny py r)] [.one (vb (sameB TT5 l r))] := by
 suffices h : ∃ rs H', Runs pg an 20 [.one (sv TT5 bz nz pz l), .one (sv TT5 by_ ny py r)] [] rs H' ∧ rs.mapM (backY H') = some [.one (vb (sameB TT5 l r))] by
  obtain ⟨rs, H', h1, h2⟩ := h
  exact ⟨rs, H', h1, h2⟩
 refine Runs.of (fn := Try.f20) Try.func20 rfl (by kernel_rfl) [(0, .y (.one (sv TT5 bz nz pz l))), (1, .y (.one (sv TT5 by_ ny py r)))] (by kernel_rfl) ?_
 refine Wp.regionSeq [] [(0, .y (.one (sv TT5 bz nz pz l))), (1, .y (.one (sv TT5 by_ ny py r)))] []
   (cast trivial (by kernel_rfl)) (by kernel_rfl) ?_
 refine Wp.seq ?_
 rcases ieq ((l.length : Int)) ((r.length : Int)) with c1 | c1
 ·
  refine Wp.regionSeq [(4, xb false, [])] [(0, .y (.one (sv TT5 bz nz pz l))), (1, .y (.one (sv TT5 by_ ny py r))), (10, xb false)] []
    (cast (And.intro (ob_raw (P := pg) (A := an) (vals := [xi (l.length : Int), xi (r.length : Int)]) (H := []) (op := .binOp .neq 3 (.tmp 0) (.tmp 1) 3) (ty := 0) (r := xb (bneI ((l.length : Int)) ((r.length : Int)))) (v := xb false) (by kernel_rfl) (congrArg (fun z => xb z) (bne_f (by omega)))) trivial) (by kernel_rfl)) (by kernel_rfl) ?_
  refine Wp.condF (by kernel_rfl) ?_
  refine Wp.skip ?_
  refine Wp.seq ?_
  refine Wp.regionSeq [] [(0, .y (.one (sv TT5 bz nz pz l))), (1, .y (.one (sv TT5 by_ ny py r))), (5, xi 0)] []
    (cast trivial (by kernel_rfl)) (by kernel_rfl) ?_
  refine Wp.block ?_
  refine Wp.loop (T := Go.Lg.Heap × Int) (fun (t : Go.Lg.Heap × Int) => match t with | (H3, i) => (((l.length : Int) - i).toNat : Nat)) (fun (t : Go.Lg.Heap × Int) => match t with | (H3, i) => ([(0, .y (.one (sv TT5 bz nz pz l))), (1, .y (.one (sv TT5 by_ ny py r))), (5, xi i)] : Env)) (fun (t : Go.Lg.Heap × Int) => match t with | (H3, i) => (H3 : Go.Lg.Heap))
    (fun (t : Go.Lg.Heap × Int) => match t with | (H3, i) => (On [] H3 ∧ (0 ≤ i) ∧ (i ≤ (l.length : Int)) ∧ (l.take i.toNat = r.take i.toNat) : Prop)) ([], 0) (by kernel_rfl) (⟨(On.pick [] [] (by kernel_rfl) (On.nil [])), by omega, by omega, by simp⟩) ?_
  rintro ⟨H3, i⟩ ⟨hs4, h1, h2, h3⟩
  show Wp _ _ _ _ [(0, .y (.one (sv TT5 bz nz pz l))), (1, .y (.one (sv TT5 by_ ny py r))), (5, xi i)] H3 _
  refine Wp.seq ?_
  rcases ilt (i) ((l.length : Int)) with c5 | c5
  ·
   refine Wp.regionSeq [(3, xb true, H3)] [(0, .y (.one (sv TT5 bz nz pz l))), (1, .y (.one (sv TT5 by_ ny py r))), (5, xi i), (14, xb true)] H3
     (cast (And.intro (ob_raw (P := pg) (A := an) (vals := [xi i, xi (l.length : Int)]) (H := H3) (op := .binOp .lss 3 (.tmp 0) (.tmp 1) 3) (ty := 0) (r := xb (decide (ILt (i) ((l.length : Int))))) (v := xb true) (by kernel_rfl) (congrArg (fun z => xb z) (decide_eq_true (by omega)))) trivial) (by kernel_rfl)) (by kernel_rfl) ?_
   refine Wp.condT (by kernel_rfl) ?_
   refine Wp.skip ?_
   refine Wp.seq ?_
   refine Wp.block ?_
   obtain ⟨x6, hx6⟩ : ∃ x, l[(i : Int).toNat]? = some x := get_of (by omega)
   obtain ⟨x7, hx7⟩ : ∃ x, r[(i : Int).toNat]? = some x := get_of (by omega)
   rcases Bool.eq_false_or_eq_true ((eqb TT5 x6 x7)) with c8 | c8
   ·
    refine Wp.regionSeq [(2, .y (.one (.rd ([vi x6.1, vi x6.2.1.1, vi x6.2.1.2.1, vi x6.2.2.1.1, vi x6.2.2.1.2.1] ++ (l.drop ((i : Int).toNat + 1)).flatMap (enc TT5)))), H3), (6, .y (.one (.rd ([vi x7.1, vi x7.2.1.1, vi x7.2.1.2.1, vi x7.2.2.1.1, vi x7.2.2.1.2.1] ++ (r.drop ((i : Int).toNat + 1)).flatMap (enc TT5)))), H3), (8, xb false, H3)] [(0, .y (.one (sv TT5 bz nz pz l))), (1, .y (.one (sv TT5 by_ ny py r))), (5, xi i), (25, xb false)] H3
      (cast (And.intro (ob_index (P := pg) (A := an) (H := H3) (s := TT5) (b := bz) (nil := nz) (capd := pz) (t := 35) (el := 41) (i := i) Try.underlying35 (by kernel_rfl) (by kernel_rfl) (by omega) hx6) (And.intro (ob_index (P := pg) (A := an) (H := H3) (s := TT5) (b := by_) (nil := ny) (capd := py) (t := 35) (el := 41) (i := i) Try.underlying35 (by kernel_rfl) (by kernel_rfl) (by omega) hx7) (And.intro (ob_neq_agg (P := pg) (A := an) (H := H3) (s := TT5) (t := 41) (u := 41) (ty := 0) (x := x6) (y := x7) (r := false) (by kernel_rfl) c8) trivial))) (by kernel_rfl)) (by kernel_rfl) ?_
    refine Wp.condF (by kernel_rfl) ?_
    refine Wp.skip ?_
    refine Wp.region [(1, xi (i + 1), H3)] [(0, .y (.one (sv TT5 bz nz pz l))), (1, .y (.one (sv TT5 by_ ny py r))), (5, xi (i + 1))] H3
      (cast (And.intro (ob_raw (P := pg) (A := an) (vals := [xi i, xi 1]) (H := H3) (op := .binOp .add 3 (.tmp 0) (.tmp 1) 3) (ty := 0) (r := xi (IntKind.wrap .i64 (i + 1))) (v := xi (i + 1)) (by kernel_rfl) (congrArg (fun z => xi z) ((wrap64 (by omega)).trans (by omega)))) trivial) (by kernel_rfl)) (by kernel_rfl) ?_
    exact ⟨(H3, (i + 1)), by kernel_rfl, (⟨(On.pick [] [] (by kernel_rfl) hs4), by omega, by omega, same_next rfl (by omega) h3 hx6 hx7 c8⟩), (by show (_ : Nat) < _; simp only []; omega)⟩
   ·
    refine Wp.regionSeq [(2, .y (.one (.rd ([vi x6.1, vi x6.2.1.1, vi x6.2.1.2.1, vi x6.2.2.1.1, vi x6.2.2.1.2.1] ++ (l.drop ((i : Int).toNat + 1)).flatMap (enc TT5)))), H3), (6, .y (.one (.rd ([vi x7.1, vi x7.2.1.1, vi x7.2.1.2.1, vi x7.2.2.1.1, vi x7.2.2.1.2.1] ++ (r.drop ((i : Int).toNat + 1)).flatMap (enc TT5)))), H3), (8, xb true, H3)] [(0, .y (.one (sv TT5 bz nz pz l))), (1, .y (.one (sv TT5 by_ ny py r))), (5, xi i), (25, xb true)] H3
      (cast (And.intro (ob_index (P := pg) (A := an) (H := H3) (s := TT5) (b := bz) (nil := nz) (capd := pz) (t := 35) (el := 41) (i := i) Try.underlying35 (by kernel_rfl) (by kernel_rfl) (by omega) hx6) (And.intro (ob_index (P := pg) (A := an) (H := H3) (s := TT5) (b := by_) (nil := ny) (capd := py) (t := 35) (el := 41) (i := i) Try.underlying35 (by kernel_rfl) (by kernel_rfl) (by omega) hx7) (And.intro (ob_neq_agg (P := pg) (A := an) (H := H3) (s := TT5) (t := 41) (u := 41) (ty := 0) (x := x6) (y := x7) (r := true) (by kernel_rfl) c8) trivial))) (by kernel_rfl)) (by kernel_rfl) ?_
    refine Wp.condT (by kernel_rfl) ?_
    refine Wp.regionSeq [] [(4, xb false)] H3
      (cast trivial (by kernel_rfl)) (by kernel_rfl) ?_
    refine Wp.ret ?_
    refine ⟨Or.inr rfl, [.one (vb false)], (by kernel_rfl), ?_⟩
    rw [show [Y.one (vb (sameB TT5 l r))] = [.one (vb false)] from congrArg (fun z => [Y.one (vb z)]) (sameF rfl (same_not rfl hx6 hx7 c8)).symm]
    exact (by kernel_rfl)
  ·
   refine Wp.regionSeq [(3, xb false, H3)] [(0, .y (.one (sv TT5 bz nz pz l))), (1, .y (.one (sv TT5 by_ ny py r))), (5, xi i), (14, xb false)] H3
     (cast (And.intro (ob_raw (P := pg) (A := an) (vals := [xi i, xi (l.length : Int)]) (H := H3) (op := .binOp .lss 3 (.tmp 0) (.tmp 1) 3) (ty := 0) (r := xb (decide (ILt (i) ((l.length : Int))))) (v := xb false) (by kernel_rfl) (congrArg (fun z => xb z) (decide_eq_false (by omega)))) trivial) (by kernel_rfl)) (by kernel_rfl) ?_
   refine Wp.condF (by kernel_rfl) ?_
   refine Wp.exit ?_
   refine Eq.mpr (if_pos rfl) ?_
   refine Wp.regionSeq [] [(4, xb true)] H3
     (cast trivial (by kernel_rfl)) (by kernel_rfl) ?_
   refine Wp.ret ?_
   refine ⟨Or.inr rfl, [.one (vb true)], (by kernel_rfl), ?_⟩
   rw [show [Y.one (vb (sameB TT5 l r))] = [.one (vb true)] from congrArg (fun z => [Y.one (vb z)]) (sameT rfl (by omega) (by omega) h3).symm]
   exact (by kernel_rfl)
 ·
  refine Wp.regionSeq [(4, xb true, [])] [(0, .y (.one (sv TT5 bz nz pz l))), (1, .y (.one (sv TT5 by_ ny py r))), (10, xb true)] []
    (cast (And.intro (ob_raw (P := pg) (A := an) (vals := [xi (l.length : Int), xi (r.length : Int)]) (H := []) (op := .binOp .neq 3 (.tmp 0) (.tmp 1) 3) (ty := 0) (r := xb (bneI ((l.length : Int)) ((r.length : Int)))) (v := xb true) (by kernel_rfl) (congrArg (fun z => xb z) (bne_t (by omega)))) trivial) (by kernel_rfl)) (by kernel_rfl) ?_
  refine Wp.condT (by kernel_rfl) ?_
  refine Wp.regionSeq [] [(4, xb false)] []
    (cast trivial (by kernel_rfl)) (by kernel_rfl) ?_
  refine Wp.ret ?_
  refine ⟨Or.inr rfl, [.one (vb false)], (by kernel_rfl), ?_⟩
  rw [show [Y.one (vb (sameB TT5 l r))] = [.one (vb false)] from congrArg (fun z => [Y.one (vb z)]) (sameF rfl (fun he => by have h9 := congrArg List.length he; omega)).symm]
  exact (by kernel_rfl)
theorem equal_ok (bz nz pz by_ ny py : Bool) (l r : List TT5.T) (hl : (l.length : Int) ≤ 70368744177664) (hr : (r.length : Int) ≤ 70368744177664)  : PureC pg an 41 [.one (sv TT5 bz nz pz l), .one (sv TT5 by_ ny py r)] [.one (vb (sameB TT5 l r))] := by
 suffices h : ∃ rs H', Runs pg an 41 [.one (sv TT5 bz nz pz l), .one (sv TT5 by_ ny py r)] [] rs H' ∧ rs.mapM (backY H') = some [.one (vb (sameB TT5 l r))] by
  obtain ⟨rs, H', h1, h2⟩ := h
  exact ⟨rs, H', h1, h2⟩
 refine Runs.of (fn := Try.f41) Try.func41 rfl (by kernel_rfl) [(0, .y (.one (sv TT5 bz nz pz l))), (1, .y (.one (sv TT5 by_ ny py r)))] (by kernel_rfl) ?_
 refine Wp.regionSeq [] [(0, .y (.one (sv TT5 bz nz pz l))), (1, .y (.one (sv TT5 by_ ny py r)))] []
   (cast trivial (by kernel_rfl)) (by kernel_rfl) ?_
 refine Wp.seq ?_
 rcases ieq ((l.length : Int)) ((r.length : Int)) with c1 | c1
 ·
  refine Wp.regionSeq [(4, xb false, [])] [(0, .y (.one (sv TT5 bz nz pz l))), (1, .y (.one (sv TT5 by_ ny py r))), (10, xb false)] []
    (cast (And.intro (ob_raw (P := pg) (A := an) (vals := [xi (l.length : Int), xi (r.length : Int)]) (H := []) (op := .binOp .neq 3 (.tmp 0) (.tmp 1) 3) (ty := 0) (r := xb (bneI ((l.length : Int)) ((r.length : Int)))) (v := xb false) (by kernel_rfl) (congrArg (fun z => xb z) (bne_f (by omega)))) trivial) (by kernel_rfl)) (by kernel_rfl) ?_
  refine Wp.condF (by kernel_rfl) ?_
  refine Wp.skip ?_
  refine Wp.seq ?_
  refine Wp.regionSeq [] [(0, .y (.one (sv TT5 bz nz pz l))), (1, .y (.one (sv TT5 by_ ny py r))), (12, xi (l.length : Int)), (13, xi 0)] []
    (cast trivial (by kernel_rfl)) (by kernel_rfl) ?_
  refine Wp.block ?_
  refine Wp.loop (T := Go.Lg.Heap × Int) (fun (t : Go.Lg.Heap × Int) => match t with | (H3, i) => (((l.length : Int) - i).toNat : Nat)) (fun (t : Go.Lg.Heap × Int) => match t with | (H3, i) => ([(0, .y (.one (sv TT5 bz nz pz l))), (1, .y (.one (sv TT5 by_ ny py r))), (12, xi (l.length : Int)), (13, xi i)] : Env)) (fun (t : Go.Lg.Heap × Int) => match t with | (H3, i) => (H3 : Go.Lg.Heap))
    (fun (t : Go.Lg.Heap × Int) => match t with | (H3, i) => (On [] H3 ∧ (0 ≤ i) ∧ (i ≤ (l.length : Int)) ∧ (l.take i.toNat = r.take i.toNat) : Prop)) ([], 0) (by kernel_rfl) (⟨(On.pick [] [] (by kernel_rfl) (On.nil [])), by omega, by omega, by simp⟩) ?_
  rintro ⟨H3, i⟩ ⟨hs4, h1, h2, h3⟩
  show Wp _ _ _ _ [(0, .y (.one (sv TT5 bz nz pz l))), (1, .y (.one (sv TT5 by_ ny py r))), (12, xi (l.length : Int)), (13, xi i)] H3 _
  rcases ilt (i) ((l.length : Int)) with c5 | c5
  ·
   refine Wp.regionSeq [(0, xb true, H3)] [(0, .y (.one (sv TT5 bz nz pz l))), (1, .y (.one (sv TT5 by_ ny py r))), (12, xi (l.length : Int)), (13, xi i), (14, xb true)] H3
     (cast (And.intro (ob_raw (P := pg) (A := an) (vals := [xi i, xi (l.length : Int)]) (H := H3) (op := .binOp .lss 3 (.tmp 0) (.tmp 1) 3) (ty := 0) (r := xb (decide (ILt (i) ((l.length : Int))))) (v := xb true) (by kernel_rfl) (congrArg (fun z => xb z) (decide_eq_true (by omega)))) trivial) (by kernel_rfl)) (by kernel_rfl) ?_
   refine Wp.seq ?_
   refine Wp.condT (by kernel_rfl) ?_
   refine Wp.skip ?_
   refine Wp.seq ?_
   refine Wp.block ?_
   refine Wp.regionSeq [] [(0, .y (.one (sv TT5 bz nz pz l))), (1, .y (.one (sv TT5 by_ ny py r))), (5, xi i), (12, xi (l.length : Int)), (13, xi i)] H3
     (cast trivial (by kernel_rfl)) (by kernel_rfl) ?_
   obtain ⟨x6, hx6⟩ : ∃ x, l[(i : Int).toNat]? = some x := get_of (by omega)
   obtain ⟨x7, hx7⟩ : ∃ x, r[(i : Int).toNat]? = some x := get_of (by omega)
   rcases Bool.eq_false_or_eq_true ((eqb TT5 x6 x7)) with c8 | c8
   ·
    refine Wp.regionSeq [(2, .y (.one (.rd ([vi x6.1, vi x6.2.1.1, vi x6.2.1.2.1, vi x6.2.2.1.1, vi x6.2.2.1.2.1] ++ (l.drop ((i : Int).toNat + 1)).flatMap (enc TT5)))), H3), (6, .y (.one (.rd ([vi x7.1, vi x7.2.1.1, vi x7.2.1.2.1, vi x7.2.2.1.1, vi x7.2.2.1.2.1] ++ (r.drop ((i : Int).toNat + 1)).flatMap (enc TT5)))), H3), (8, xb false, H3)] [(0, .y (.one (sv TT5 bz nz pz l))), (1, .y (.one (sv TT5 by_ ny py r))), (12, xi (l.length : Int)), (13, xi i), (24, xb false)] H3
      (cast (And.intro (ob_index (P := pg) (A := an) (H := H3) (s := TT5) (b := bz) (nil := nz) (capd := pz) (t := 35) (el := 41) (i := i) Try.underlying35 (by kernel_rfl) (by kernel_rfl) (by omega) hx6) (And.intro (ob_index (P := pg) (A := an) (H := H3) (s := TT5) (b := by_) (nil := ny) (capd := py) (t := 35) (el := 41) (i := i) Try.underlying35 (by kernel_rfl) (by kernel_rfl) (by omega) hx7) (And.intro (ob_neq_agg (P := pg) (A := an) (H := H3) (s := TT5) (t := 41) (u := 41) (ty := 0) (x := x6) (y := x7) (r := false) (by kernel_rfl) c8) trivial))) (by kernel_rfl)) (by kernel_rfl) ?_
    refine Wp.condF (by kernel_rfl) ?_
    refine Wp.skip ?_
    refine Wp.region [(0, xi (i + 1), H3)] [(0, .y (.one (sv TT5 bz nz pz l))), (1, .y (.one (sv TT5 by_ ny py r))), (12, xi (l.length : Int)), (13, xi (i + 1))] H3
      (cast (And.intro (ob_raw (P := pg) (A := an) (vals := [xi i, xi 1]) (H := H3) (op := .binOp .add 3 (.tmp 0) (.tmp 1) 3) (ty := 0) (r := xi (IntKind.wrap .i64 (i + 1))) (v := xi (i + 1)) (by kernel_rfl) (congrArg (fun z => xi z) ((wrap64 (by omega)).trans (by omega)))) trivial) (by kernel_rfl)) (by kernel_rfl) ?_
    exact ⟨(H3, (i + 1)), by kernel_rfl, (⟨(On.pick [] [] (by kernel_rfl) hs4), by omega, by omega, same_next rfl (by omega) h3 hx6 hx7 c8⟩), (by show (_ : Nat) < _; simp only []; omega)⟩
   ·
    refine Wp.regionSeq [(2, .y (.one (.rd ([vi x6.1, vi x6.2.1.1, vi x6.2.1.2.1, vi x6.2.2.1.1, vi x6.2.2.1.2.1] ++ (l.drop ((i : Int).toNat + 1)).flatMap (enc TT5)))), H3), (6, .y (.one (.rd ([vi x7.1, vi x7.2.1.1, vi x7.2.1.2.1, vi x7.2.2.1.1, vi x7.2.2.1.2.1] ++ (r.drop ((i : Int).toNat + 1)).flatMap (enc TT5)))), H3), (8, xb true, H3)] [(0, .y (.one (sv TT5 bz nz pz l))), (1, .y (.one (sv TT5 by_ ny py r))), (12, xi (l.length : Int)), (13, xi i), (24, xb true)] H3
      (cast (And.intro (ob_index (P := pg) (A := an) (H := H3) (s := TT5) (b := bz) (nil := nz) (capd := pz) (t := 35) (el := 41) (i := i) Try.underlying35 (by kernel_rfl) (by kernel_rfl) (by omega) hx6) (And.intro (ob_index (P := pg) (A := an) (H := H3) (s := TT5) (b := by_) (nil := ny) (capd := py) (t := 35) (el := 41) (i := i) Try.underlying35 (by kernel_rfl) (by kernel_rfl) (by omega) hx7) (And.intro (ob_neq_agg (P := pg) (A := an) (H := H3) (s := TT5) (t := 41) (u := 41) (ty := 0) (x := x6) (y := x7) (r := true) (by kernel_rfl) c8) trivial))) (by kernel_rfl)) (by kernel_rfl) ?_
    refine Wp.condT (by kernel_rfl) ?_
    refine Wp.regionSeq [] [(4, xb false)] H3
      (cast trivial (by kernel_rfl)) (by kernel_rfl) ?_
    refine Wp.ret ?_
    refine ⟨Or.inr rfl, [.one (vb false)], (by kernel_rfl), ?_⟩
    rw [show [Y.one (vb (sameB TT5 l r))] = [.one (vb false)] from congrArg (fun z => [Y.one (vb z)]) (sameF rfl (same_not rfl hx6 hx7 c8)).symm]
    exact (by kernel_rfl)
  ·
   refine Wp.regionSeq [(0, xb false, H3)] [(0, .y (.one (sv TT5 bz nz pz l))), (1, .y (.one (sv TT5 by_ ny py r))), (12, xi (l.length : Int)), (13, xi i), (14, xb false)] H3
     (cast (And.intro (ob_raw (P := pg) (A := an) (vals := [xi i, xi (l.length : Int)]) (H := H3) (op := .binOp .lss 3 (.tmp 0) (.tmp 1) 3) (ty := 0) (r := xb (decide (ILt (i) ((l.length : Int))))) (v := xb false) (by kernel_rfl) (congrArg (fun z => xb z) (decide_eq_false (by omega)))) trivial) (by kernel_rfl)) (by kernel_rfl) ?_
   refine Wp.seq ?_
   refine Wp.condF (by kernel_rfl) ?_
   refine Wp.exit ?_
   refine Eq.mpr (if_pos rfl) ?_
   refine Wp.regionSeq [] [(4, xb true)] H3
     (cast trivial (by kernel_rfl)) (by kernel_rfl) ?_
   refine Wp.ret ?_
   refine ⟨Or.inr rfl, [.one (vb true)], (by kernel_rfl), ?_⟩
   rw [show [Y.one (vb (sameB TT5 l r))] = [.one (vb true)] from congrArg (fun z => [Y.one (vb z)]) (sameT rfl (by omega) (by omega) h3).symm]
   exact (by kernel_rfl)
 ·
  refine Wp.regionSeq [(4, xb true, [])] [(0, .y (.one (sv TT5 bz nz pz l))), (1, .y (.one (sv TT5 by_ ny py r))), (10, xb true)] []
    (cast (And.intro (ob_raw (P := pg) (A := an) (vals := [xi (l.length : Int), xi (r.length : Int)]) (H := []) (op := .binOp .neq 3 (.tmp 0) (.tmp 1) 3) (ty := 0) (r := xb (bneI ((l.length : Int)) ((r.length : Int)))) (v := xb true) (by kernel_rfl) (congrArg (fun z => xb z) (bne_t (by omega)))) trivial) (by kernel_rfl)) (by kernel_rfl) ?_
  refine Wp.condT (by kernel_rfl) ?_
  refine Wp.regionSeq [] [(4, xb false)] []
    (cast trivial (by kernel_rfl)) (by kernel_rfl) ?_
  refine Wp.ret ?_
  refine ⟨Or.inr rfl, [.one (vb false)], (by kernel_rfl), ?_⟩
  rw [show [Y.one (vb (sameB TT5 l r))] = [.one (vb false)] from congrArg (fun z => [Y.one (vb z)]) (sameF rfl (fun he => by have h9 := congrArg List.length he; omega)).symm]
  exact (by kernel_rfl)
end Go.Proofs.Ytjhgjbagmkiibaa.E
end
section
namespace Go.Proofs.Ytjhgjbagmkiibaa.E
open Go.Lg
set_option linter.unusedVariables false
set_option maxRecDepth 100000
set_option maxHeartbeats 8000000
set_option linter.unusedSimpArgs false
theorem lenWd (M : List TI.T) (b : PD.T) : ((watOf M b).length : Int) ≤ (M.length : Int) := by
  unfold watOf
  rw [List.length_map]
  exact lenIM _ _
theorem aw_elem {l : List TT5.T} {n : Nat} {x y z : TT5.T} (hx : l[n]? = some x) (h9 : l[n]? = some y) (hz : eqb TT5 y z = true) : eqb TT5 x z = true := by
  rw [hx] at h9
  cases h9
  exact hz
theorem awake_ok (R : HP) (H : Go.Lg.Heap) (hs : On [R] H) : ∃ rs H', Runs pg an 17 [] H rs H' ∧ rs = [.one (vb true)] ∧ On [R] H' := by
 refine Runs.of (fn := Try.f17) Try.func17 rfl (by kernel_rfl) [] (by kernel_rfl) ?_
 refine Wp.regionSeq [] [] H
   (cast trivial (by kernel_rfl)) (by kernel_rfl) ?_
 obtain ⟨_, H4, hr5, n1, n2, n3, rfl, hs6⟩ := new_ok _ (H : Go.Lg.Heap) (On.call [] [0] (by kernel_rfl) hs)
 have hs6 : On [R, pts n1 (lnkO ([])), pts n2 (monO ([])), pts n3 (.obj [.mp n1, .mp n2])] H4 := On.flat hs6
 refine Wp.regionSeq [(0, .y (.one (.ptr n3 0)), H4)] [(1, .y (.one (.ptr n3 0)))] H4
   (cast (And.intro (ob_call (P := pg) (A := an) (H := H) (g := 7) (vals := []) (xs0 := []) (res := [.one (.ptr n3 0)]) (ats := #[]) (ty := 0) (v := .y (.one (.ptr n3 0))) (H' := H4) [] (by kernel_rfl) (by kernel_rfl) hr5 (by kernel_rfl)) trivial) (by kernel_rfl)) (by kernel_rfl) ?_
 refine Wp.gen (cs := [R, pts n1 (lnkO ([])), pts n2 (monO ([])), pts n3 (.obj [.mp n1, .mp n2])]) hs6 ?_
 intro H7 hs8
 obtain ⟨n9, hn9⟩ : ∃ n, n = List.length (H7 : Go.Lg.Heap) := ⟨_, rfl⟩
 obtain ⟨n10, hn10⟩ : ∃ n, n = List.length ((H7 ++ [.obj [vi 0, vi 0]]) : Go.Lg.Heap) := ⟨_, rfl⟩
 refine Wp.regionSeq [(2, .y (.one (.ptr n9 0)), (H7 ++ [.obj [vi 0, vi 0]])), (3, .y (.one (.ptr n10 0)), ((H7 ++ [.obj [vi 0, vi 0]]) ++ [.obj [vi 0, vi 0]])), (4, .tup [], (List.set (α := O) ((H7 ++ [.obj [vi 0, vi 0]]) ++ [.obj [vi 0, vi 0]]) n9 (.obj [vi 2, vi 1]))), (5, .tup [], (List.set (α := O) (List.set (α := O) ((H7 ++ [.obj [vi 0, vi 0]]) ++ [.obj [vi 0, vi 0]]) n9 (.obj [vi 2, vi 1])) n10 (.obj [vi 1, vi 1])))] [(1, .y (.one (.ptr n3 0))), (2, .y (.one (.ptr n9 0))), (3, .y (.one (.ptr n10 0)))] (List.set (α := O) (List.set (α := O) ((H7 ++ [.obj [vi 0, vi 0]]) ++ [.obj [vi 0, vi 0]]) n9 (.obj [vi 2, vi 1])) n10 (.obj [vi 1, vi 1]))
   (cast (And.intro (ob_alloc (P := pg) (A := an) (H := H7) (t := 24) (ty := 0) (n := n9) (cs := [vi 0, vi 0]) hn9 (by kernel_rfl)) (And.intro (ob_alloc (P := pg) (A := an) (H := (H7 ++ [.obj [vi 0, vi 0]])) (t := 24) (ty := 0) (n := n10) (cs := [vi 0, vi 0]) hn10 (by kernel_rfl)) (And.intro (ob_store_ptr (P := pg) (A := an) (H := ((H7 ++ [.obj [vi 0, vi 0]]) ++ [.obj [vi 0, vi 0]])) (t := 24) (ty := 0) (id := n9) (off := 0) (cs := [vi 0, vi 0]) (cs' := [vi 2, vi 1]) (v := .agg [vi 2, vi 1]) (On.at (On.new' hn10 (.obj [vi 0, vi 0]) (On.new' hn9 (.obj [vi 0, vi 0]) hs8)) 4 rfl) (by kernel_rfl) (by kernel_rfl) (by kernel_rfl)) (And.intro (ob_store_ptr (P := pg) (A := an) (H := (List.set (α := O) ((H7 ++ [.obj [vi 0, vi 0]]) ++ [.obj [vi 0, vi 0]]) n9 (.obj [vi 2, vi 1]))) (t := 24) (ty := 0) (id := n10) (off := 0) (cs := [vi 0, vi 0]) (cs' := [vi 1, vi 1]) (v := .agg [vi 1, vi 1]) (On.at (On.put (.obj [vi 2, vi 1]) (On.new' hn10 (.obj [vi 0, vi 0]) (On.new' hn9 (.obj [vi 0, vi 0]) hs8)) 4 rfl) 5 rfl) (by kernel_rfl) (by kernel_rfl) (by kernel_rfl)) trivial)))) (by kernel_rfl)) (by kernel_rfl) ?_
 refine Wp.gen (cs := [R, pts n1 (lnkO ([])), pts n2 (monO ([])), pts n3 (.obj [.mp n1, .mp n2]), pts n9 (.obj [vi 2, vi 1]), pts n10 (.obj [vi 1, vi 1])]) (On.put (.obj [vi 1, vi 1]) (On.put (.obj [vi 2, vi 1]) (On.new' hn10 (.obj [vi 0, vi 0]) (On.new' hn9 (.obj [vi 0, vi 0]) hs8)) 4 rfl) 5 rfl) ?_
 intro H11 hs12
 refine Wp.seq ?_
 obtain ⟨_, H14, hr15, rfl, hs16⟩ := link_ok _ (H11 : Go.Lg.Heap) n3 n1 n2 ([]) ([]) (2, (1, ())) (1, (1, ())) (On.call [3, 1, 2] [0, 4, 5] (by kernel_rfl) hs12) (by kernel_rfl)
 have hs16 : On [R, pts n9 (.obj [vi 2, vi 1]), pts n10 (.obj [vi 1, vi 1]), pts n3 (.obj [.mp n1, .mp n2]), pts n1 (lnkO (linkL ([]) ([]) (2, (1, ())) (1, (1, ())))), pts n2 (monO ([]))] H14 := On.flat hs16
 have he13 : ((linkE ([]) ([]) (2, (1, ())) (1, (1, ()))) : Int) = 0 := by kernel_rfl
 obtain ⟨_, H18, hr19, rfl, hs20⟩ := monitor_ok _ (H14 : Go.Lg.Heap) n3 n1 n2 (linkL ([]) ([]) (2, (1, ())) (1, (1, ()))) ([]) 5 (1, (1, ())) (2, (1, ())) (On.call [3, 4, 5] [0, 1, 2] (by kernel_rfl) hs16) (by kernel_rfl)
 have hs20 : On [R, pts n9 (.obj [vi 2, vi 1]), pts n10 (.obj [vi 1, vi 1]), pts n3 (.obj [.mp n1, .mp n2]), pts n1 (lnkO (linkL ([]) ([]) (2, (1, ())) (1, (1, ())))), pts n2 (monO (monM (linkL ([]) ([]) (2, (1, ())) (1, (1, ()))) ([]) 5 (1, (1, ())) (2, (1, ()))))] H18 := On.flat hs20
 have he17 : ((monE (linkL ([]) ([]) (2, (1, ())) (1, (1, ()))) ([]) 5 (1, (1, ())) (2, (1, ()))) : Int) = 0 := by kernel_rfl
 refine Wp.regionSeq [(4, .y (.agg [vi 2, vi 1]), H11), (5, .y (.agg [vi 1, vi 1]), H11), (6, xi (linkE ([]) ([]) (2, (1, ())) (1, (1, ()))), H14), (7, xb false, H14), (11, .y (.agg [vi 1, vi 1]), H14), (12, .y (.agg [vi 2, vi 1]), H14), (13, xi (monE (linkL ([]) ([]) (2, (1, ())) (1, (1, ()))) ([]) 5 (1, (1, ())) (2, (1, ()))), H18), (14, xb false, H18)] [(1, .y (.one (.ptr n3 0))), (2, .y (.one (.ptr n9 0))), (3, .y (.one (.ptr n10 0))), (23, xb false)] H18
   (cast (And.intro (ob_load_ptr (P := pg) (A := an) (H := H11) (t := 24) (ty := 0) (id := n9) (off := 0) (n := 2) (cs := [vi 2, vi 1]) (cs' := [vi 2, vi 1]) (v := .agg [vi 2, vi 1]) (On.at hs12 4 rfl) (by kernel_rfl) (by kernel_rfl) (by kernel_rfl) (by kernel_rfl)) (And.intro (ob_load_ptr (P := pg) (A := an) (H := H11) (t := 24) (ty := 0) (id := n10) (off := 0) (n := 2) (cs := [vi 1, vi 1]) (cs' := [vi 1, vi 1]) (v := .agg [vi 1, vi 1]) (On.at hs12 5 rfl) (by kernel_rfl) (by kernel_rfl) (by kernel_rfl) (by kernel_rfl)) (And.intro (ob_call (P := pg) (A := an) (H := H11) (g := 8) (vals := [.y (.one (.ptr n3 0)), .y (.agg [vi 2, vi 1]), .y (.agg [vi 1, vi 1])]) (xs0 := [.one (.ptr n3 0), .agg [vi 2, vi 1], .agg [vi 1, vi 1]]) (res := [.one (vi (linkE ([]) ([]) (2, (1, ())) (1, (1, ()))))]) (ats := #[]) (ty := 0) (v := xi (linkE ([]) ([]) (2, (1, ())) (1, (1, ())))) (H' := H14) [.tmp 0, .tmp 1, .tmp 2] (by kernel_rfl) (by kernel_rfl) hr15 (by kernel_rfl)) (And.intro (ob_raw (P := pg) (A := an) (vals := [xi (linkE ([]) ([]) (2, (1, ())) (1, (1, ()))), xi 0]) (H := H14) (op := .binOp .neq 29 (.tmp 0) (.tmp 1) 29) (ty := 0) (r := xb (bneI ((linkE ([]) ([]) (2, (1, ())) (1, (1, ())))) (0))) (v := xb false) (by kernel_rfl) (congrArg (fun z => xb z) (bne_f (by omega)))) (And.intro (ob_load_ptr (P := pg) (A := an) (H := H14) (t := 24) (ty := 0) (id := n10) (off := 0) (n := 2) (cs := [vi 1, vi 1]) (cs' := [vi 1, vi 1]) (v := .agg [vi 1, vi 1]) (On.at hs16 2 rfl) (by kernel_rfl) (by kernel_rfl) (by kernel_rfl) (by kernel_rfl)) (And.intro (ob_load_ptr (P := pg) (A := an) (H := H14) (t := 24) (ty := 0) (id := n9) (off := 0) (n := 2) (cs := [vi 2, vi 1]) (cs' := [vi 2, vi 1]) (v := .agg [vi 2, vi 1]) (On.at hs16 1 rfl) (by kernel_rfl) (by kernel_rfl) (by kernel_rfl) (by kernel_rfl)) (And.intro (ob_call (P := pg) (A := an) (H := H14) (g := 12) (vals := [.y (.one (.ptr n3 0)), xi 5, .y (.agg [vi 1, vi 1]), .y (.agg [vi 2, vi 1])]) (xs0 := [.one (.ptr n3 0), .one (vi 5), .agg [vi 1, vi 1], .agg [vi 2, vi 1]]) (res := [.one (vi (monE (linkL ([]) ([]) (2, (1, ())) (1, (1, ()))) ([]) 5 (1, (1, ())) (2, (1, ()))))]) (ats := #[]) (ty := 0) (v := xi (monE (linkL ([]) ([]) (2, (1, ())) (1, (1, ()))) ([]) 5 (1, (1, ())) (2, (1, ())))) (H' := H18) [.tmp 0, .tmp 1, .tmp 2, .tmp 3] (by kernel_rfl) (by kernel_rfl) hr19 (by kernel_rfl)) (And.intro (ob_raw (P := pg) (A := an) (vals := [xi (monE (linkL ([]) ([]) (2, (1, ())) (1, (1, ()))) ([]) 5 (1, (1, ())) (2, (1, ()))), xi 0]) (H := H18) (op := .binOp .neq 29 (.tmp 0) (.tmp 1) 29) (ty := 0) (r := xb (bneI ((monE (linkL ([]) ([]) (2, (1, ())) (1, (1, ()))) ([]) 5 (1, (1, ())) (2, (1, ())))) (0))) (v := xb false) (by kernel_rfl) (congrArg (fun z => xb z) (bne_f (by omega)))) trivial)))))))) (by kernel_rfl)) (by kernel_rfl) ?_
 refine Wp.gen (cs := [R, pts n9 (.obj [vi 2, vi 1]), pts n10 (.obj [vi 1, vi 1]), pts n3 (.obj [.mp n1, .mp n2]), pts n1 (lnkO (linkL ([]) ([]) (2, (1, ())) (1, (1, ())))), pts n2 (monO (monM (linkL ([]) ([]) (2, (1, ())) (1, (1, ()))) ([]) 5 (1, (1, ())) (2, (1, ()))))]) hs20 ?_
 intro H21 hs22
 refine Wp.condF (by kernel_rfl) ?_
 refine Wp.skip ?_
 obtain ⟨_, H26, hr27, c23, rfl, hs28⟩ := all_c (A := an) rfl rfl _ (H21 : Go.Lg.Heap) n3 n1 n2 (linkL ([]) ([]) (2, (1, ())) (1, (1, ()))) (monM (linkL ([]) ([]) (2, (1, ())) (1, (1, ()))) ([]) 5 (1, (1, ())) (2, (1, ()))) (On.call [3, 4, 5] [0, 1, 2] (by kernel_rfl) hs22) (by kernel_rfl)
 have hs28 : On [R, pts n9 (.obj [vi 2, vi 1]), pts n10 (.obj [vi 1, vi 1]), pts n3 (.obj [.mp n1, .mp n2]), pts n1 (lnkO (linkL ([]) ([]) (2, (1, ())) (1, (1, ())))), pts n2 (monO (monM (linkL ([]) ([]) (2, (1, ())) (1, (1, ()))) ([]) 5 (1, (1, ())) (2, (1, ())))), ownP TT5 c23 (allOf (linkL ([]) ([]) (2, (1, ())) (1, (1, ()))) (monM (linkL ([]) ([]) (2, (1, ())) (1, (1, ()))) ([]) 5 (1, (1, ())) (2, (1, ()))))] H26 := On.flat hs28
 have hk24 : ((allOf (linkL ([]) ([]) (2, (1, ())) (1, (1, ()))) (monM (linkL ([]) ([]) (2, (1, ())) (1, (1, ()))) ([]) 5 (1, (1, ())) (2, (1, ())))).length : Int) = ((linkL ([]) ([]) (2, (1, ())) (1, (1, ()))).length : Int) + ((monM (linkL ([]) ([]) (2, (1, ())) (1, (1, ()))) ([]) 5 (1, (1, ())) (2, (1, ()))).length : Int) := allLen _ _
 have he25 : ((allOf (linkL ([]) ([]) (2, (1, ())) (1, (1, ()))) (monM (linkL ([]) ([]) (2, (1, ())) (1, (1, ()))) ([]) 5 (1, (1, ())) (2, (1, ())))).length : Int) = 2 := by kernel_rfl
 refine Wp.regionSeq [(1, .y (.one (c23)), H26)] [(1, .y (.one (.ptr n3 0))), (2, .y (.one (.ptr n9 0))), (3, .y (.one (.ptr n10 0))), (4, .y (.one (c23)))] H26
   (cast (And.intro (ob_call (P := pg) (A := an) (H := H21) (g := 16) (vals := [.y (.one (.ptr n3 0))]) (xs0 := [.one (.ptr n3 0)]) (res := [.one (c23)]) (ats := #[]) (ty := 0) (v := .y (.one (c23))) (H' := H26) [.tmp 0] (by kernel_rfl) (by kernel_rfl) hr27 (by kernel_rfl)) trivial) (by kernel_rfl)) (by kernel_rfl) ?_
 refine Wp.gen (cs := [R, pts n9 (.obj [vi 2, vi 1]), pts n10 (.obj [vi 1, vi 1]), pts n3 (.obj [.mp n1, .mp n2]), pts n1 (lnkO (linkL ([]) ([]) (2, (1, ())) (1, (1, ())))), pts n2 (monO (monM (linkL ([]) ([]) (2, (1, ())) (1, (1, ()))) ([]) 5 (1, (1, ())) (2, (1, ())))), ownP TT5 c23 (allOf (linkL ([]) ([]) (2, (1, ())) (1, (1, ()))) (monM (linkL ([]) ([]) (2, (1, ())) (1, (1, ()))) ([]) 5 (1, (1, ())) (2, (1, ()))))]) hs28 ?_
 intro H29 hs30
 obtain ⟨rfl, hl33, hs31⟩ | ⟨k34, rfl, k34z, hs32⟩ := own_open hs30 6 rfl
 ·
  have hl33n : ((allOf (linkL ([]) ([]) (2, (1, ())) (1, (1, ()))) (monM (linkL ([]) ([]) (2, (1, ())) (1, (1, ()))) ([]) 5 (1, (1, ())) (2, (1, ())))).length : Int) = 0 := by rw [hl33]; rfl
  exfalso; omega
 ·
  obtain ⟨x35, hx35⟩ : ∃ x : TT5.T, (allOf (linkL ([]) ([]) (2, (1, ())) (1, (1, ()))) (monM (linkL ([]) ([]) (2, (1, ())) (1, (1, ()))) ([]) 5 (1, (1, ())) (2, (1, ()))))[0]? = some x := get_of (by first | rfl | omega | (simp only [List.length_nil]; omega) | (simp; done) | (simp; omega))
  have hb36 : (eqb TT5 x35 (0, ((1, (1, ())), ((2, (1, ())), ())))) = true := aw_elem (y := ((0, ((1, (1, ())), ((2, (1, ())), ()))) : TT5.T)) hx35 (by kernel_rfl) (by kernel_rfl)
  obtain ⟨_, H40, hr41, c37, rfl, hs42⟩ := links_c (A := an) rfl rfl _ (H29 : Go.Lg.Heap) n3 n1 n2 (linkL ([]) ([]) (2, (1, ())) (1, (1, ()))) (monM (linkL ([]) ([]) (2, (1, ())) (1, (1, ()))) ([]) 5 (1, (1, ())) (2, (1, ()))) (1, (1, ())) (On.call [3, 4, 5] [0, 1, 2, 6] (by kernel_rfl) hs32) (by kernel_rfl)
  have hs42 : On [R, pts n9 (.obj [vi 2, vi 1]), pts n10 (.obj [vi 1, vi 1]), pts k34 (rowO TT5 true 0 (allOf (linkL ([]) ([]) (2, (1, ())) (1, (1, ()))) (monM (linkL ([]) ([]) (2, (1, ())) (1, (1, ()))) ([]) 5 (1, (1, ())) (2, (1, ()))))), pts n3 (.obj [.mp n1, .mp n2]), pts n1 (lnkO (linkL ([]) ([]) (2, (1, ())) (1, (1, ())))), pts n2 (monO (monM (linkL ([]) ([]) (2, (1, ())) (1, (1, ()))) ([]) 5 (1, (1, ())) (2, (1, ())))), ownP PD c37 (isort ltD (lnkOf (linkL ([]) ([]) (2, (1, ())) (1, (1, ()))) (1, (1, ()))))] H40 := On.flat hs42
  have hk38 : ((isort ltD (lnkOf (linkL ([]) ([]) (2, (1, ())) (1, (1, ()))) (1, (1, ())))).length : Int) ≤ ((linkL ([]) ([]) (2, (1, ())) (1, (1, ()))).length : Int) := lenLd _ _
  have he39 : ((isort ltD (lnkOf (linkL ([]) ([]) (2, (1, ())) (1, (1, ()))) (1, (1, ())))).length : Int) = 1 := by kernel_rfl
  obtain ⟨_, H44, hr45, rfl, hs46⟩ := link_ok _ (H40 : Go.Lg.Heap) n3 n1 n2 (linkL ([]) ([]) (2, (1, ())) (1, (1, ()))) (monM (linkL ([]) ([]) (2, (1, ())) (1, (1, ()))) ([]) 5 (1, (1, ())) (2, (1, ()))) (2, (1, ())) (2, (1, ())) (On.call [4, 5, 6] [0, 1, 2, 3, 7] (by kernel_rfl) hs42) (by kernel_rfl)
  have hs46 : On [R, pts n9 (.obj [vi 2, vi 1]), pts n10 (.obj [vi 1, vi 1]), pts k34 (rowO TT5 true 0 (allOf (linkL ([]) ([]) (2, (1, ())) (1, (1, ()))) (monM (linkL ([]) ([]) (2, (1, ())) (1, (1, ()))) ([]) 5 (1, (1, ())) (2, (1, ()))))), ownP PD c37 (isort ltD (lnkOf (linkL ([]) ([]) (2, (1, ())) (1, (1, ()))) (1, (1, ())))), pts n3 (.obj [.mp n1, .mp n2]), pts n1 (lnkO (linkL (linkL ([]) ([]) (2, (1, ())) (1, (1, ()))) (monM (linkL ([]) ([]) (2, (1, ())) (1, (1, ()))) ([]) 5 (1, (1, ())) (2, (1, ()))) (2, (1, ())) (2, (1, ())))), pts n2 (monO (monM (linkL ([]) ([]) (2, (1, ())) (1, (1, ()))) ([]) 5 (1, (1, ())) (2, (1, ()))))] H44 := On.flat hs46
  have he43 : ((linkE (linkL ([]) ([]) (2, (1, ())) (1, (1, ()))) (monM (linkL ([]) ([]) (2, (1, ())) (1, (1, ()))) ([]) 5 (1, (1, ())) (2, (1, ()))) (2, (1, ())) (2, (1, ()))) : Int) = 1 := by kernel_rfl
  refine Wp.regionSeq [(1, xi ((allOf (linkL ([]) ([]) (2, (1, ())) (1, (1, ()))) (monM (linkL ([]) ([]) (2, (1, ())) (1, (1, ()))) ([]) 5 (1, (1, ())) (2, (1, ())))).length : Int), H29), (2, xb true, H29), (5, .y (.one (raC k34 0 (allOf (linkL ([]) ([]) (2, (1, ())) (1, (1, ()))) (monM (linkL ([]) ([]) (2, (1, ())) (1, (1, ()))) ([]) 5 (1, (1, ())) (2, (1, ())))).length 5 0 0)), H29), (6, .y (.agg [vi x35.1, vi x35.2.1.1, vi x35.2.1.2.1, vi x35.2.2.1.1, vi x35.2.2.1.2.1]), H29), (7, .y (.agg [vi 1, vi 1]), H29), (8, .y (.agg [vi 2, vi 1]), H29), (10, xb true, H29), (14, .y (.agg [vi 1, vi 1]), H29), (15, .y (.one (c37)), H40), (16, xi ((isort ltD (lnkOf (linkL ([]) ([]) (2, (1, ())) (1, (1, ()))) (1, (1, ())))).length : Int), H40), (17, xb true, H40), (21, .y (.agg [vi 2, vi 1]), H40), (22, .y (.agg [vi 2, vi 1]), H40), (23, xi (linkE (linkL ([]) ([]) (2, (1, ())) (1, (1, ()))) (monM (linkL ([]) ([]) (2, (1, ())) (1, (1, ()))) ([]) 5 (1, (1, ())) (2, (1, ()))) (2, (1, ())) (2, (1, ()))), H44), (24, xb true, H44)] [(0, xb true)] H44
    (cast (And.intro (or_len (P := pg) (A := an) (H := H29) (s := TT5) (t := 35) (ty := 0) (pu := true) (capd := false) (id := k34) (d := 0) (o := 0) (n := ((allOf (linkL ([]) ([]) (2, (1, ())) (1, (1, ()))) (monM (linkL ([]) ([]) (2, (1, ())) (1, (1, ()))) ([]) 5 (1, (1, ())) (2, (1, ())))).length)) (l := (allOf (linkL ([]) ([]) (2, (1, ())) (1, (1, ()))) (monM (linkL ([]) ([]) (2, (1, ())) (1, (1, ()))) ([]) 5 (1, (1, ())) (2, (1, ()))))) (e := ((allOf (linkL ([]) ([]) (2, (1, ())) (1, (1, ()))) (monM (linkL ([]) ([]) (2, (1, ())) (1, (1, ()))) ([]) 5 (1, (1, ())) (2, (1, ())))).length : Int)) (On.at hs32 6 rfl) (by kernel_rfl) (by first | rfl | omega | (simp only [List.length_nil]; omega) | (simp; done) | (simp; omega))) (And.intro (ob_raw (P := pg) (A := an) (vals := [xi ((allOf (linkL ([]) ([]) (2, (1, ())) (1, (1, ()))) (monM (linkL ([]) ([]) (2, (1, ())) (1, (1, ()))) ([]) 5 (1, (1, ())) (2, (1, ())))).length : Int), xi 2]) (H := H29) (op := .binOp .eql 3 (.tmp 0) (.tmp 1) 3) (ty := 0) (r := xb (beqI (((allOf (linkL ([]) ([]) (2, (1, ())) (1, (1, ()))) (monM (linkL ([]) ([]) (2, (1, ())) (1, (1, ()))) ([]) 5 (1, (1, ())) (2, (1, ())))).length : Int)) (2))) (v := xb true) (by kernel_rfl) (congrArg (fun z => xb z) (beq_t (by omega)))) (And.intro (or_index (P := pg) (A := an) (H := H29) (s := TT5) (t := 35) (el := 41) (ty := 0) (pu := true) (capd := false) (id := k34) (d := 0) (o := 0) (n := ((allOf (linkL ([]) ([]) (2, (1, ())) (1, (1, ()))) (monM (linkL ([]) ([]) (2, (1, ())) (1, (1, ()))) ([]) 5 (1, (1, ())) (2, (1, ())))).length)) (j := 0) (l := (allOf (linkL ([]) ([]) (2, (1, ())) (1, (1, ()))) (monM (linkL ([]) ([]) (2, (1, ())) (1, (1, ()))) ([]) 5 (1, (1, ())) (2, (1, ()))))) (i := 0) (On.at hs32 6 rfl) Try.underlying35 (by kernel_rfl) (by omega) (by first | rfl | omega | (simp only [List.length_nil]; omega) | (simp; done) | (simp; omega)) (by first | rfl | omega | (simp only [List.length_nil]; omega) | (simp; done) | (simp; omega)) (by first | rfl | omega | (simp only [List.length_nil]; omega) | (simp; done) | (simp; omega))) (And.intro (or_load (P := pg) (A := an) (H := H29) (s := TT5) (t := 41) (ty := 0) (pu := true) (id := k34) (d := 0) (j := 0) (o := 0) (n := 5) (l := (allOf (linkL ([]) ([]) (2, (1, ())) (1, (1, ()))) (monM (linkL ([]) ([]) (2, (1, ())) (1, (1, ()))) ([]) 5 (1, (1, ())) (2, (1, ()))))) (x := x35) (v := .agg [vi x35.1, vi x35.2.1.1, vi x35.2.1.2.1, vi x35.2.2.1.1, vi x35.2.2.1.2.1]) (On.at hs32 6 rfl) (by kernel_rfl) (by kernel_rfl) (of_content (L := (allOf (linkL ([]) ([]) (2, (1, ())) (1, (1, ()))) (monM (linkL ([]) ([]) (2, (1, ())) (1, (1, ()))) ([]) 5 (1, (1, ())) (2, (1, ()))))) (o := 0) (n := ((allOf (linkL ([]) ([]) (2, (1, ())) (1, (1, ()))) (monM (linkL ([]) ([]) (2, (1, ())) (1, (1, ()))) ([]) 5 (1, (1, ())) (2, (1, ())))).length)) (dt0 rfl (Nat.le_refl _)) hx35 (by first | rfl | omega | (simp only [List.length_nil]; omega) | (simp; done) | (simp; omega))) (by kernel_rfl)) (And.intro (ob_load_ptr (P := pg) (A := an) (H := H29) (t := 24) (ty := 0) (id := n10) (off := 0) (n := 2) (cs := [vi 1, vi 1]) (cs' := [vi 1, vi 1]) (v := .agg [vi 1, vi 1]) (On.at hs32 2 rfl) (by kernel_rfl) (by kernel_rfl) (by kernel_rfl) (by kernel_rfl)) (And.intro (ob_load_ptr (P := pg) (A := an) (H := H29) (t := 24) (ty := 0) (id := n9) (off := 0) (n := 2) (cs := [vi 2, vi 1]) (cs' := [vi 2, vi 1]) (v := .agg [vi 2, vi 1]) (On.at hs32 1 rfl) (by kernel_rfl) (by kernel_rfl) (by kernel_rfl) (by kernel_rfl)) (And.intro (ob_eq_agg (P := pg) (A := an) (H := H29) (s := TT5) (t := 41) (u := 41) (ty := 0) (x := x35) (y := (0, ((1, (1, ())), ((2, (1, ())), ())))) (r := true) (by kernel_rfl) hb36) (And.intro (ob_load_ptr (P := pg) (A := an) (H := H29) (t := 24) (ty := 0) (id := n10) (off := 0) (n := 2) (cs := [vi 1, vi 1]) (cs' := [vi 1, vi 1]) (v := .agg [vi 1, vi 1]) (On.at hs32 2 rfl) (by kernel_rfl) (by kernel_rfl) (by kernel_rfl) (by kernel_rfl)) (And.intro (ob_call (P := pg) (A := an) (H := H29) (g := 10) (vals := [.y (.one (.ptr n3 0)), .y (.agg [vi 1, vi 1])]) (xs0 := [.one (.ptr n3 0), .agg [vi 1, vi 1]]) (res := [.one (c37)]) (ats := #[]) (ty := 0) (v := .y (.one (c37))) (H' := H40) [.tmp 0, .tmp 1] (by kernel_rfl) (by kernel_rfl) hr41 (by kernel_rfl)) (And.intro (ob_len_own (P := pg) (A := an) (s := PD) (c := c37) (l := (isort ltD (lnkOf (linkL ([]) ([]) (2, (1, ())) (1, (1, ()))) (1, (1, ()))))) (t := 32) (ty := 0) (e := ((isort ltD (lnkOf (linkL ([]) ([]) (2, (1, ())) (1, (1, ()))) (1, (1, ())))).length : Int)) hs42 7 rfl (by kernel_rfl) rfl) (And.intro (ob_raw (P := pg) (A := an) (vals := [xi ((isort ltD (lnkOf (linkL ([]) ([]) (2, (1, ())) (1, (1, ()))) (1, (1, ())))).length : Int), xi 1]) (H := H40) (op := .binOp .eql 3 (.tmp 0) (.tmp 1) 3) (ty := 0) (r := xb (beqI (((isort ltD (lnkOf (linkL ([]) ([]) (2, (1, ())) (1, (1, ()))) (1, (1, ())))).length : Int)) (1))) (v := xb true) (by kernel_rfl) (congrArg (fun z => xb z) (beq_t (by omega)))) (And.intro (ob_load_ptr (P := pg) (A := an) (H := H40) (t := 24) (ty := 0) (id := n9) (off := 0) (n := 2) (cs := [vi 2, vi 1]) (cs' := [vi 2, vi 1]) (v := .agg [vi 2, vi 1]) (On.at hs42 1 rfl) (by kernel_rfl) (by kernel_rfl) (by kernel_rfl) (by kernel_rfl)) (And.intro (ob_load_ptr (P := pg) (A := an) (H := H40) (t := 24) (ty := 0) (id := n9) (off := 0) (n := 2) (cs := [vi 2, vi 1]) (cs' := [vi 2, vi 1]) (v := .agg [vi 2, vi 1]) (On.at hs42 1 rfl) (by kernel_rfl) (by kernel_rfl) (by kernel_rfl) (by kernel_rfl)) (And.intro (ob_call (P := pg) (A := an) (H := H40) (g := 8) (vals := [.y (.one (.ptr n3 0)), .y (.agg [vi 2, vi 1]), .y (.agg [vi 2, vi 1])]) (xs0 := [.one (.ptr n3 0), .agg [vi 2, vi 1], .agg [vi 2, vi 1]]) (res := [.one (vi (linkE (linkL ([]) ([]) (2, (1, ())) (1, (1, ()))) (monM (linkL ([]) ([]) (2, (1, ())) (1, (1, ()))) ([]) 5 (1, (1, ())) (2, (1, ()))) (2, (1, ())) (2, (1, ()))))]) (ats := #[]) (ty := 0) (v := xi (linkE (linkL ([]) ([]) (2, (1, ())) (1, (1, ()))) (monM (linkL ([]) ([]) (2, (1, ())) (1, (1, ()))) ([]) 5 (1, (1, ())) (2, (1, ()))) (2, (1, ())) (2, (1, ())))) (H' := H44) [.tmp 0, .tmp 1, .tmp 2] (by kernel_rfl) (by kernel_rfl) hr45 (by kernel_rfl)) (And.intro (ob_raw (P := pg) (A := an) (vals := [xi (linkE (linkL ([]) ([]) (2, (1, ())) (1, (1, ()))) (monM (linkL ([]) ([]) (2, (1, ())) (1, (1, ()))) ([]) 5 (1, (1, ())) (2, (1, ()))) (2, (1, ())) (2, (1, ()))), xi 1]) (H := H44) (op := .binOp .eql 29 (.tmp 0) (.tmp 1) 29) (ty := 0) (r := xb (beqI ((linkE (linkL ([]) ([]) (2, (1, ())) (1, (1, ()))) (monM (linkL ([]) ([]) (2, (1, ())) (1, (1, ()))) ([]) 5 (1, (1, ())) (2, (1, ()))) (2, (1, ())) (2, (1, ())))) (1))) (v := xb true) (by kernel_rfl) (congrArg (fun z => xb z) (beq_t (by omega)))) trivial))))))))))))))) (by kernel_rfl)) (by kernel_rfl) ?_
  refine Wp.gen (cs := [R, pts n9 (.obj [vi 2, vi 1]), pts n10 (.obj [vi 1, vi 1]), pts k34 (rowO TT5 true 0 (allOf (linkL ([]) ([]) (2, (1, ())) (1, (1, ()))) (monM (linkL ([]) ([]) (2, (1, ())) (1, (1, ()))) ([]) 5 (1, (1, ())) (2, (1, ()))))), ownP PD c37 (isort ltD (lnkOf (linkL ([]) ([]) (2, (1, ())) (1, (1, ()))) (1, (1, ())))), pts n3 (.obj [.mp n1, .mp n2]), pts n1 (lnkO (linkL (linkL ([]) ([]) (2, (1, ())) (1, (1, ()))) (monM (linkL ([]) ([]) (2, (1, ())) (1, (1, ()))) ([]) 5 (1, (1, ())) (2, (1, ()))) (2, (1, ())) (2, (1, ())))), pts n2 (monO (monM (linkL ([]) ([]) (2, (1, ())) (1, (1, ()))) ([]) 5 (1, (1, ())) (2, (1, ()))))]) hs46 ?_
  intro H47 hs48
  refine Wp.ret ?_
  refine ⟨Or.inr rfl, [.one (vb true)], (by kernel_rfl), ?_⟩
  exact ⟨rfl, (On.pick [0] [1, 2, 3, 4, 5, 6, 7] (by kernel_rfl) hs48)⟩
end Go.Proofs.Ytjhgjbagmkiibaa.E
end
section
namespace Go.Proofs.Ytjhgjbagmkiibaa.E
open Go.Lg Go.Sort
set_option maxRecDepth 100000
set_option linter.unusedVariables false
set_option linter.unusedSimpArgs false
def isZ (x : TT5.T) : Bool := decide (IEq x.1 0)
def isR (x : TT5.T) : Bool := decide (ILt 0 x.1)
def aheadB (x y : TT5.T) : Bool := if isZ x = true then (if isZ y = true then (ltD x.2.1 y.2.1 || (eqb PD x.2.1 y.2.1 && ltD x.2.2.1 y.2.2.1)) else true) else (if isZ y = true then false else decide (ILt x.1 y.1))
def okE (x : TT5.T) : Bool := mayP x.2.1 && (mayP x.2.2.1 && (decide (ILe 0 x.1) && (decide (ILe x.1 4611686018427387903) && (!(isZ x) || ltD x.2.1 x.2.2.1))))
def dlk1 (l : List TT5.T) (a : PD.T) : List PD.T := (l.filter fun x => isZ x && eqb PD x.2.2.1 a).map (·.2.1)
def dlk2 (l : List TT5.T) (a : PD.T) : List PD.T := (l.filter fun x => isZ x && eqb PD x.2.1 a).map (·.2.2.1)
def dwat (l : List TT5.T) (a : PD.T) : List TT5.T := l.filter fun x => isR x && eqb PD x.2.2.1 a
def dmayP (l : List TT5.T) (n : Nat) : Prop := (∀ x ∈ l.take n, okE x = true) ∧ ∀ j x y, j + 1 < n → l[j]? = some x → l[j + 1]? = some y → aheadB x y = true
noncomputable def dmay (l : List TT5.T) : Bool := @decide (dmayP l l.length) (Classical.propDecidable _)
theorem dmay_iff {l : List TT5.T} : dmay l = true ↔ dmayP l l.length := by
  unfold dmay
  exact @decide_eq_true_iff _ (Classical.propDecidable _)
noncomputable def dldE (l : List TT5.T) : Int := if dmay l = true then (if (1024 : Int) < (l.length : Int) then 150 else 0) else 1
/-! ### Steps of loops -/
theorem take_next {α : Type} {l : List α} {i : Int} {x : α} (h0 : 0 ≤ i) (hx : l[i.toNat]? = some x) : l.take (i + 1).toNat = l.take i.toNat ++ [x] := by
  rw [show (i + 1).toNat = i.toNat + 1 by omega, List.take_add_one, hx]
  rfl
theorem filt_yes {α : Type} {p : α → Bool} {l : List α} {i : Int} {x : α} (h0 : 0 ≤ i) (hx : l[i.toNat]? = some x) (hp : p x = true) : (l.take (i + 1).toNat).filter p = (l.take i.toNat).filter p ++ [x] := by
  rw [take_next h0 hx, List.filter_append, List.filter_cons_of_pos hp]
  rfl
theorem filt_no {α : Type} {p : α → Bool} {l : List α} {i : Int} {x : α} (h0 : 0 ≤ i) (hx : l[i.toNat]? = some x) (hp : p x = false) : (l.take (i + 1).toNat).filter p = (l.take i.toNat).filter p := by
  rw [take_next h0 hx, List.filter_append, List.filter_cons_of_neg (by rw [hp]; simp), List.filter_nil, List.append_nil]
theorem dlk1_yes {l : List TT5.T} {a : PD.T} {i : Int} {x : TT5.T} (h0 : 0 ≤ i) (hx : l[i.toNat]? = some x) (hz : IEq x.1 0) (he : eqb PD x.2.2.1 a = true) : dlk1 (l.take i.toNat) a ++ [x.2.1] = dlk1 (l.take (i + 1).toNat) a := by
  unfold dlk1
  rw [filt_yes h0 hx (by rw [he]; unfold isZ; rw [decide_eq_true hz]; rfl), List.map_append]
  rfl
theorem isZf {x : TT5.T} (h : ¬ IEq x.1 0) : isZ x = false := decide_eq_false h
theorem dlk1_no {l : List TT5.T} {a : PD.T} {i : Int} {x : TT5.T} (h0 : 0 ≤ i) (hx : l[i.toNat]? = some x) (h : ¬ IEq x.1 0 ∨ eqb PD x.2.2.1 a = false) : dlk1 (l.take i.toNat) a = dlk1 (l.take (i + 1).toNat) a := by
  unfold dlk1
  rw [filt_no h0 hx (by rcases h with h | h; · rw [isZf h]; rfl
                        · rw [h, Bool.and_false])]
theorem dlk2_yes {l : List TT5.T} {a : PD.T} {i : Int} {x : TT5.T} (h0 : 0 ≤ i) (hx : l[i.toNat]? = some x) (hz : IEq x.1 0) (he : eqb PD x.2.1 a = true) : dlk2 (l.take i.toNat) a ++ [x.2.2.1] = dlk2 (l.take (i + 1).toNat) a := by
  unfold dlk2
  rw [filt_yes h0 hx (by rw [he]; unfold isZ; rw [decide_eq_true hz]; rfl), List.map_append]
  rfl
theorem dlk2_no {l : List TT5.T} {a : PD.T} {i : Int} {x : TT5.T} (h0 : 0 ≤ i) (hx : l[i.toNat]? = some x) (h : ¬ IEq x.1 0 ∨ eqb PD x.2.1 a = false) : dlk2 (l.take i.toNat) a = dlk2 (l.take (i + 1).toNat) a := by
  unfold dlk2
  rw [filt_no h0 hx (by rcases h with h | h; · rw [isZf h]; rfl
                        · rw [h, Bool.and_false])]
theorem dwat_yes {l : List TT5.T} {a : PD.T} {i : Int} {x : TT5.T} (h0 : 0 ≤ i) (hx : l[i.toNat]? = some x) (hz : ILt 0 x.1) (he : eqb PD x.2.2.1 a = true) : dwat (l.take i.toNat) a ++ [x] = dwat (l.take (i + 1).toNat) a := by
  unfold dwat
  rw [filt_yes h0 hx (by rw [he]; unfold isR; rw [decide_eq_true hz]; rfl)]
theorem dwat_no {l : List TT5.T} {a : PD.T} {i : Int} {x : TT5.T} (h0 : 0 ≤ i) (hx : l[i.toNat]? = some x) (h : ¬ ILt 0 x.1 ∨ eqb PD x.2.2.1 a = false) : dwat (l.take i.toNat) a = dwat (l.take (i + 1).toNat) a := by
  unfold dwat
  rw [filt_no h0 hx (by rcases h with h | h; · unfold isR; rw [decide_eq_false h]; rfl
                        · rw [h, Bool.and_false])]
theorem take_all {α : Type} {l : List α} {i : Int} (h : (l.length : Int) ≤ i) : l.take i.toNat = l := List.take_of_length_le (by omega)
theorem may_step {l : List TT5.T} {i : Int} {x : TT5.T} (h0 : 0 ≤ i) (h : dmayP l i.toNat) (hx : l[i.toNat]? = some x) (ho : okE x = true) (ha : ∀ y, 0 < i → l[(i - 1).toNat]? = some y → aheadB y x = true) : dmayP l (i + 1).toNat := by
  refine ⟨?_, ?_⟩
  · intro y hy
    rw [take_next h0 hx, List.mem_append, List.mem_singleton] at hy
    rcases hy with hy | rfl
    · exact h.1 y hy
    · exact ho
  · intro j y z hj hy hz
    by_cases e : j + 1 = i.toNat
    · rw [e, hx] at hz
      cases hz
      exact ha y (by omega) (by rw [show (i - 1).toNat = j by omega]; exact hy)
    · exact h.2 j y z (by omega) hy hz
theorem may_end {l : List TT5.T} {i : Int} (hi : (l.length : Int) ≤ i) (hj : i ≤ (l.length : Int)) (h : dmayP l i.toNat) : true = dmay l := by
  rw [show i.toNat = l.length by omega] at h
  exact (dmay_iff.2 h).symm
theorem may_no1 {l : List TT5.T} {n : Nat} {x : TT5.T} (hx : l[n]? = some x) (ho : okE x = false) : false = dmay l := by
  cases h : dmay l with
  | false => rfl
  | true =>
    have := (dmay_iff.1 h).1 x (by rw [List.take_length]; exact List.mem_of_getElem? hx)
    rw [ho] at this; cases this
theorem may_no2 {l : List TT5.T} {i : Int} {x y : TT5.T} (h0 : 0 < i) (hx : l[i.toNat]? = some x) (hy : l[(i - 1).toNat]? = some y) (ho : aheadB y x = false) : false = dmay l := by
  cases h : dmay l with
  | false => rfl
  | true =>
    have hlt : i.toNat < l.length := (List.getElem?_eq_some_iff.1 hx).1
    have := (dmay_iff.1 h).2 (i - 1).toNat y x (by omega) hy (by rw [show (i - 1).toNat + 1 = i.toNat by omega]; exact hx)
    rw [ho] at this; cases this
end Go.Proofs.Ytjhgjbagmkiibaa.E
end
