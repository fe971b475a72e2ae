/- Lemmas. -/
import Derived.Test.YtoidoeappihplaaR19SK
namespace Go.Proofs.Ytoidoeappihplaa
open Go.Lg
set_option linter.unusedVariables false
set_option maxRecDepth 100000
set_option maxHeartbeats 8000000
set_option linter.unusedSimpArgs false
theorem nd_load {B : List PN.T} {q : List EN.T} {i j : Int} {x : EN.T} (h : (B ++ pids (q.take i.toNat)).Nodup) (h0 : 0 ≤ i) (hj : j = i) (hx : q[i.toNat]? = some x) (hn : ∀ y ∈ q.take j.toNat, eqb PN y.1 x.1 = false) (hb : x.1 ∉ B) : (B ++ pids (q.take (i + 1).toNat)).Nodup := by
  subst hj
  rw [show (j + 1).toNat = j.toNat + 1 by omega, List.take_add_one, hx]
  show (B ++ List.map _ (_ ++ [x])).Nodup
  rw [List.map_append, ← List.append_assoc]
  refine nd_snoc h ?_
  rw [Bool.eq_false_iff]
  intro hm
  rw [memB_iff rfl] at hm
  rcases List.mem_append.1 hm with hm | hm
  · exact hb hm
  · obtain ⟨y, hy, e⟩ := List.mem_map.1 hm
    have := hn y hy
    rw [e, eqb_refl rfl] at this
    cases this
theorem nd_next {B : List PN.T} {q r : List EN.T} {i : Int} (h : (B ++ pids (q.take i.toNat)).Nodup) (hi : (q.length : Int) ≤ i) : ((B ++ pids q) ++ pids (r.take (0 : Int).toNat)).Nodup := by
  rw [take_all hi] at h
  simpa using h
theorem ok0 {l0 l1 l2 : List EN.T} (h : LoadOk l0 l1 l2) : (pids l0).Nodup := (List.nodup_append.1 h).1
theorem ok1 {l0 l1 l2 : List EN.T} (h : LoadOk l0 l1 l2) : (pids l1).Nodup := (List.nodup_append.1 (List.nodup_append.1 h).2.1).1
theorem ok2 {l0 l1 l2 : List EN.T} (h : LoadOk l0 l1 l2) : (pids l2).Nodup := (List.nodup_append.1 (List.nodup_append.1 h).2.1).2.1
theorem ok01 {l0 l1 l2 : List EN.T} (h : LoadOk l0 l1 l2) : ∀ p ∈ pids l1, p ∉ pids l0 := fun p h1 h0 => (List.nodup_append.1 h).2.2 p h0 p (List.mem_append_left _ h1) rfl
theorem ok02 {l0 l1 l2 : List EN.T} (h : LoadOk l0 l1 l2) : ∀ p ∈ pids l2, p ∉ pids l0 := fun p h1 h0 => (List.nodup_append.1 h).2.2 p h0 p (List.mem_append_right _ h1) rfl
theorem ok12 {l0 l1 l2 : List EN.T} (h : LoadOk l0 l1 l2) : ∀ p ∈ pids l2, p ∉ pids l1 := fun p h1 h0 => (List.nodup_append.1 (List.nodup_append.1 h).2.1).2.2 p h0 p h1 rfl
theorem not_two {p : PN.T} {l0 l1 : List EN.T} (h0 : posI p l0 < 0) (h1 : posI p l1 < 0) : p ∉ pids l0 ++ pids l1 := fun h => by
  rcases List.mem_append.1 h with h | h
  · exact posI_neg.1 h0 h
  · exact posI_neg.1 h1 h
theorem rnew_bad (b nil cp0 : Bool) (S : List Int) (hsl : (S.length : Int) ≤ 4611686018427387904) (hok : okW S = false)  : PureC pg an 39 [.one (sv NI b nil cp0 S)] [.agg [nilC, vi 0, nilC, nilC, nilC], .one (vi 20)] := by
 suffices h : ∃ rs H', Runs pg an 39 [.one (sv NI b nil cp0 S)] [] rs H' ∧ rs.mapM (backY H') = some [.agg [nilC, vi 0, nilC, nilC, nilC], .one (vi 20)] by
  obtain ⟨rs, H', h1, h2⟩ := h
  exact ⟨rs, H', h1, h2⟩
 refine Runs.of (fn := Try.f39) Try.func39 rfl (by kernel_rfl) [(0, .y (.one (sv NI b nil cp0 S)))] (by kernel_rfl) ?_
 obtain ⟨n1, hn1⟩ : ∃ n, n = List.length ([] : HH) := ⟨_, rfl⟩
 refine rSq [(0, yp n1, ([] ++ [.obj [nilC, vi 0, nilC, nilC, nilC]]))] [(0, .y (.one (sv NI b nil cp0 S))), (2, yp n1)] ([] ++ [.obj [nilC, vi 0, nilC, nilC, nilC]])
   (cast (JZ (Jg (H := []) (t := 41) (ty := 0) (n := n1) (cs := [nilC, vi 0, nilC, nilC, nilC]) hn1 (by kernel_rfl))) (by kernel_rfl)) (by kernel_rfl) ?_
 refine wG (On.new' hn1 (.obj [nilC, vi 0, nilC, nilC, nilC]) (On.nil [])) ?_
 intro H2 hs3
 obtain ⟨n4, hn4⟩ : ∃ n, n = List.length (H2 : HH) := ⟨_, rfl⟩
 refine rSq [(0, yp n4, (H2 ++ [.obj [nilC, vi 0, nilC, nilC, nilC]]))] [(0, .y (.one (sv NI b nil cp0 S))), (2, yp n1), (4, yp n4)] (H2 ++ [.obj [nilC, vi 0, nilC, nilC, nilC]])
   (cast (JZ (Jg (H := H2) (t := 41) (ty := 0) (n := n4) (cs := [nilC, vi 0, nilC, nilC, nilC]) hn4 (by kernel_rfl))) (by kernel_rfl)) (by kernel_rfl) ?_
 refine wG (On.new' hn4 (.obj [nilC, vi 0, nilC, nilC, nilC]) hs3) ?_
 intro H5 hs6
 refine wS ?_
 refine rSq [(1, xi 20, H5)] [(0, .y (.one (sv NI b nil cp0 S))), (2, yp n1), (4, yp n4), (5, xi 20)] H5
   (cast (JZ (Jo (H := H5) (g := 52) (x := .one (sv NI b nil cp0 S)) (res := [.one (vi 20)]) (by have := rcheck b nil cp0 S (by omega); rw [hok] at this; exact this) (by kernel_rfl) (by kernel_rfl))) (by kernel_rfl)) (by kernel_rfl) ?_
 refine rS0 [(0, .y (.one (sv NI b nil cp0 S))), (2, yp n1), (4, yp n4), (5, xi 20), (9, xb true)] (by kernel_rfl) ?_
 refine wTa ?_
 refine rSq [(0, .y (.agg [nilC, vi 0, nilC, nilC, nilC]), H5), (2, .tup [], (sto H5 n1 (.obj [nilC, vi 0, nilC, nilC, nilC])))] [(2, yp n1), (3, xi 20)] (sto H5 n1 (.obj [nilC, vi 0, nilC, nilC, nilC]))
   (cast (Jai (Ja (t := 41) (off := 0) (v := .agg [nilC, vi 0, nilC, nilC, nilC]) (On.at hs6 1 rfl) (by kernel_rfl)) (JZ (Jc (t := 41) (off := 0) (v := .agg [nilC, vi 0, nilC, nilC, nilC]) (On.at hs6 0 rfl) (by kernel_rfl)))) (by kernel_rfl)) (by kernel_rfl) ?_
 refine wG (On.put (.obj [nilC, vi 0, nilC, nilC, nilC]) hs6 0 rfl) ?_
 intro H7 hs8
 refine wE ?_
 refine ⟨Or.inr rfl, [.agg [nilC, vi 0, nilC, nilC, nilC], .one (vi 20)], (cast (res_cons (P := pg) (e := [(2, yp n1), (3, xi 20)]) (H := H7) (res_cell (P := pg) (e := [(2, yp n1), (3, xi 20)]) (H := H7) (a := 2) (t := 41) (id := n1) (off := 0) (n := 5) (cs := [nilC, vi 0, nilC, nilC, nilC]) (cs' := [nilC, vi 0, nilC, nilC, nilC]) (v := .agg [nilC, vi 0, nilC, nilC, nilC]) (by kernel_rfl) (by kernel_rfl) (On.at hs8 0 rfl) (by kernel_rfl) (by kernel_rfl) (by kernel_rfl)) (res_cons (P := pg) (e := [(2, yp n1), (3, xi 20)]) (H := H7) (r := .tmp 3) (y := .one (vi 20)) (by kernel_rfl) res_nil)) (by kernel_rfl)), ?_⟩
 exact (by kernel_rfl)
theorem rnew_ok (b nil cp0 : Bool) (S : List Int) (hsl : (S.length : Int) ≤ 4611686018427387904) (hok : okW S = true) (hS : 3 ≤ (S.length : Int)) (hT : (S.length : Int) ≤ 64)  : ∃ nl : Bool, ∃ cp : Bool, PureC pg an 39 [.one (sv NI b nil cp0 S)] [.agg [sv NI false nl cp S, vi 0, nilC, nilC, nilC], .one (vi 0)] := by
 suffices h : ∃ rs H', Runs pg an 39 [.one (sv NI b nil cp0 S)] [] rs H' ∧ ∃ nl : Bool, ∃ cp : Bool, rs.mapM (backY H') = some [.agg [sv NI false nl cp S, vi 0, nilC, nilC, nilC], .one (vi 0)] by
  obtain ⟨rs, H', h1, nl, cp, h2⟩ := h
  exact ⟨nl, cp, rs, H', h1, h2⟩
 refine Runs.of (fn := Try.f39) Try.func39 rfl (by kernel_rfl) [(0, .y (.one (sv NI b nil cp0 S)))] (by kernel_rfl) ?_
 obtain ⟨n1, hn1⟩ : ∃ n, n = List.length ([] : HH) := ⟨_, rfl⟩
 refine rSq [(0, yp n1, ([] ++ [.obj [nilC, vi 0, nilC, nilC, nilC]]))] [(0, .y (.one (sv NI b nil cp0 S))), (2, yp n1)] ([] ++ [.obj [nilC, vi 0, nilC, nilC, nilC]])
   (cast (JZ (Jg (H := []) (t := 41) (ty := 0) (n := n1) (cs := [nilC, vi 0, nilC, nilC, nilC]) hn1 (by kernel_rfl))) (by kernel_rfl)) (by kernel_rfl) ?_
 refine wG (On.new' hn1 (.obj [nilC, vi 0, nilC, nilC, nilC]) (On.nil [])) ?_
 intro H2 hs3
 obtain ⟨n4, hn4⟩ : ∃ n, n = List.length (H2 : HH) := ⟨_, rfl⟩
 refine rSq [(0, yp n4, (H2 ++ [.obj [nilC, vi 0, nilC, nilC, nilC]]))] [(0, .y (.one (sv NI b nil cp0 S))), (2, yp n1), (4, yp n4)] (H2 ++ [.obj [nilC, vi 0, nilC, nilC, nilC]])
   (cast (JZ (Jg (H := H2) (t := 41) (ty := 0) (n := n4) (cs := [nilC, vi 0, nilC, nilC, nilC]) hn4 (by kernel_rfl))) (by kernel_rfl)) (by kernel_rfl) ?_
 refine wG (On.new' hn4 (.obj [nilC, vi 0, nilC, nilC, nilC]) hs3) ?_
 intro H5 hs6
 refine wS ?_
 refine rSq [(1, xi 0, H5)] [(0, .y (.one (sv NI b nil cp0 S))), (2, yp n1), (4, yp n4), (5, xi 0)] H5
   (cast (JZ (Jo (H := H5) (g := 52) (x := .one (sv NI b nil cp0 S)) (res := [.one (vi 0)]) (by have := rcheck b nil cp0 S (by omega); rw [hok] at this; exact this) (by kernel_rfl) (by kernel_rfl))) (by kernel_rfl)) (by kernel_rfl) ?_
 refine rS0 [(0, .y (.one (sv NI b nil cp0 S))), (2, yp n1), (4, yp n4), (5, xi 0), (9, xb false)] (by kernel_rfl) ?_
 refine wFk ?_
 obtain ⟨cv7, H8, ho9, hs10⟩ := or_append_nil (P := pg) (A := an) (s := NI) (t := 36) (u := 36) (el := 3) (by_ := 8) (z := [vi 0]) (ty := 0) (y := sv NI b nil cp0 S) (lm := S) (m := S.length) hs6 ((slCells_slO (H := H5) (s := NI) (b := b) (nil := nil) (capd := cp0) (l := S) (n := S.length) (by first | rfl | omega | simp <;> omega))) (by kernel_rfl) (by kernel_rfl) (by kernel_rfl) (by kernel_rfl) (by kernel_rfl) (by kernel_rfl) (by kernel_rfl) (by first | rfl | omega | simp <;> omega) (by omega) (by omega)
 have hs10l : (S.length : Int) = (S.length : Int) := by { first | omega | (simp only [List.length_append]; omega) | (simp; done) | (simp; omega) }
 have hv11 : C.live cv7 = true := items_live hs10 2 rfl
 refine rSq [(1, .y (.one (nilC)), H5), (3, .y (.one (cv7)), H8), (5, .tup [], (sto H8 n4 (.obj [cv7, vi 0, nilC, nilC, nilC])))] [(2, yp n1), (4, yp n4)] (sto H8 n4 (.obj [cv7, vi 0, nilC, nilC, nilC]))
   (cast (Jai (Ja (t := 36) (off := 0) (v := .one (nilC)) (On.at hs6 1 rfl) (by kernel_rfl)) (Jai ho9 (JZ (Jp (H := H8) (t := 36) (ty := 0) (id := n4) (off := 0) (cs := [nilC, vi 0, nilC, nilC, nilC]) (cs' := [cv7, vi 0, nilC, nilC, nilC]) (v := .one (cv7)) (On.at hs10 1 rfl) (by kernel_rfl) (live_cons hv11 live_nil) (by kernel_rfl) (by kernel_rfl))))) (by kernel_rfl)) (by kernel_rfl) ?_
 refine wG (On.put (.obj [cv7, vi 0, nilC, nilC, nilC]) hs10 1 rfl) ?_
 intro H12 hs13
 refine rSq [(0, .y (.agg [cv7, vi 0, nilC, nilC, nilC]), H12), (1, .tup [], (sto H12 n1 (.obj [cv7, vi 0, nilC, nilC, nilC])))] [(2, yp n1), (3, xi 0)] (sto H12 n1 (.obj [cv7, vi 0, nilC, nilC, nilC]))
   (cast (Jai (Ja (t := 41) (off := 0) (v := .agg [cv7, vi 0, nilC, nilC, nilC]) (On.at hs13 1 rfl) (by kernel_rfl)) (JZ (Jp (H := H12) (t := 41) (ty := 0) (id := n1) (off := 0) (cs := [nilC, vi 0, nilC, nilC, nilC]) (cs' := [cv7, vi 0, nilC, nilC, nilC]) (v := .agg [cv7, vi 0, nilC, nilC, nilC]) (On.at hs13 0 rfl) (by kernel_rfl) (live_cons hv11 (live_cons rfl (live_cons rfl (live_cons rfl (live_cons rfl live_nil))))) (by kernel_rfl) (by kernel_rfl)))) (by kernel_rfl)) (by kernel_rfl) ?_
 refine wG (On.put (.obj [cv7, vi 0, nilC, nilC, nilC]) hs13 0 rfl) ?_
 intro H14 hs15
 refine wE ?_
 refine ⟨Or.inr rfl, [.agg [cv7, vi 0, nilC, nilC, nilC], .one (vi 0)], (cast (res_cons (P := pg) (e := [(2, yp n1), (3, xi 0)]) (H := H14) (res_cell (P := pg) (e := [(2, yp n1), (3, xi 0)]) (H := H14) (a := 2) (t := 41) (id := n1) (off := 0) (n := 5) (cs := [cv7, vi 0, nilC, nilC, nilC]) (cs' := [cv7, vi 0, nilC, nilC, nilC]) (v := .agg [cv7, vi 0, nilC, nilC, nilC]) (by kernel_rfl) (by kernel_rfl) (On.at hs15 0 rfl) (by kernel_rfl) (by kernel_rfl) (by kernel_rfl)) (res_cons (P := pg) (e := [(2, yp n1), (3, xi 0)]) (H := H14) (r := .tmp 3) (y := .one (vi 0)) (by kernel_rfl) res_nil)) (by kernel_rfl)), ?_⟩
 obtain ⟨fn16, fp17, hf18⟩ := items_back hs15 2 rfl
 exact ⟨fn16, fp17, (back_cons (back_agg (mapM_cons' hf18 (mapM_cons' (by kernel_rfl) (mapM_cons' (by kernel_rfl) (mapM_cons' (by kernel_rfl) (mapM_cons' (by kernel_rfl) mapM_nil')))))) (back_cons (by kernel_rfl) rfl))⟩
theorem tk_snoc {q : List EN.T} {i : Int} {x : EN.T} (h0 : 0 ≤ i) (hx : q[i.toNat]? = some x) : q.take i.toNat ++ [x] = q.take (i + 1).toNat := by
  rw [show (i + 1).toNat = i.toNat + 1 by omega, List.take_add_one, hx]; rfl
theorem rload (b nil cp0 : Bool) (S : List Int) (hsl : (S.length : Int) ≤ 4611686018427387904) (hand : Int) (aa0 nn0 pp0 aa1 nn1 pp1 aa2 nn2 pp2 : Bool) (l0 l1 l2 : List EN.T) (hzl0 : (l0.length : Int) ≤ 5864062014805) (hzl1 : (l1.length : Int) ≤ 5864062014805) (hzl2 : (l2.length : Int) ≤ 5864062014805)  : ((okW S = false) ∧ PureC pg an 24 [.one (sv NI b nil cp0 S), .one (vi hand), .agg [sv EN aa0 nn0 pp0 l0, sv EN aa1 nn1 pp1 l1, sv EN aa2 nn2 pp2 l2]] [.agg [nilC, vi 0, nilC, nilC, nilC], .one (vi 20)]) ∨ ((okW S = true) ∧ (hand < 0 ∨ (S.length : Int) ≤ hand) ∧ PureC pg an 24 [.one (sv NI b nil cp0 S), .one (vi hand), .agg [sv EN aa0 nn0 pp0 l0, sv EN aa1 nn1 pp1 l1, sv EN aa2 nn2 pp2 l2]] [.agg [nilC, vi 0, nilC, nilC, nilC], .one (vi 1)]) ∨ ((okW S = true) ∧ ((0 ≤ hand ∧ hand < (S.length : Int))) ∧ (LoadBad l0 l1 l2) ∧ PureC pg an 24 [.one (sv NI b nil cp0 S), .one (vi hand), .agg [sv EN aa0 nn0 pp0 l0, sv EN aa1 nn1 pp1 l1, sv EN aa2 nn2 pp2 l2]] [.agg [nilC, vi 0, nilC, nilC, nilC], .one (vi 1)]) ∨ ((okW S = true) ∧ ((0 ≤ hand ∧ hand < (S.length : Int))) ∧ (LoadOk l0 l1 l2) ∧ (64 < (l0.length : Int) ∨ 64 < (l1.length : Int) ∨ 64 < (l2.length : Int)) ∧ PureC pg an 24 [.one (sv NI b nil cp0 S), .one (vi hand), .agg [sv EN aa0 nn0 pp0 l0, sv EN aa1 nn1 pp1 l1, sv EN aa2 nn2 pp2 l2]] [.agg [nilC, vi 0, nilC, nilC, nilC], .one (vi 2)]) ∨ ((okW S = true) ∧ ((0 ≤ hand ∧ hand < (S.length : Int))) ∧ (LoadOk l0 l1 l2) ∧ ((l0.length : Int) ≤ 64) ∧ ((l1.length : Int) ≤ 64) ∧ ((l2.length : Int) ≤ 64) ∧ ∃ nl : Bool, ∃ cp : Bool, ∃ fy0 : Bool, ∃ fz0 : Bool, ∃ fy1 : Bool, ∃ fz1 : Bool, ∃ fy2 : Bool, ∃ fz2 : Bool, PureC pg an 24 [.one (sv NI b nil cp0 S), .one (vi hand), .agg [sv EN aa0 nn0 pp0 l0, sv EN aa1 nn1 pp1 l1, sv EN aa2 nn2 pp2 l2]] [.agg [sv NI false nl cp S, vi hand, sv EN false fy0 fz0 l0, sv EN false fy1 fz1 l1, sv EN false fy2 fz2 l2], .one (vi 0)]) := by
 suffices h : ∃ rs H', Runs pg an 24 [.one (sv NI b nil cp0 S), .one (vi hand), .agg [sv EN aa0 nn0 pp0 l0, sv EN aa1 nn1 pp1 l1, sv EN aa2 nn2 pp2 l2]] [] rs H' ∧ (((okW S = false) ∧ rs.mapM (backY H') = some [.agg [nilC, vi 0, nilC, nilC, nilC], .one (vi 20)]) ∨ ((okW S = true) ∧ (hand < 0 ∨ (S.length : Int) ≤ hand) ∧ rs.mapM (backY H') = some [.agg [nilC, vi 0, nilC, nilC, nilC], .one (vi 1)]) ∨ ((okW S = true) ∧ ((0 ≤ hand ∧ hand < (S.length : Int))) ∧ (LoadBad l0 l1 l2) ∧ rs.mapM (backY H') = some [.agg [nilC, vi 0, nilC, nilC, nilC], .one (vi 1)]) ∨ ((okW S = true) ∧ ((0 ≤ hand ∧ hand < (S.length : Int))) ∧ (LoadOk l0 l1 l2) ∧ (64 < (l0.length : Int) ∨ 64 < (l1.length : Int) ∨ 64 < (l2.length : Int)) ∧ rs.mapM (backY H') = some [.agg [nilC, vi 0, nilC, nilC, nilC], .one (vi 2)]) ∨ ((okW S = true) ∧ ((0 ≤ hand ∧ hand < (S.length : Int))) ∧ (LoadOk l0 l1 l2) ∧ ((l0.length : Int) ≤ 64) ∧ ((l1.length : Int) ≤ 64) ∧ ((l2.length : Int) ≤ 64) ∧ ∃ nl : Bool, ∃ cp : Bool, ∃ fy0 : Bool, ∃ fz0 : Bool, ∃ fy1 : Bool, ∃ fz1 : Bool, ∃ fy2 : Bool, ∃ fz2 : Bool, rs.mapM (backY H') = some [.agg [sv NI false nl cp S, vi hand, sv EN false fy0 fz0 l0, sv EN false fy1 fz1 l1, sv EN false fy2 fz2 l2], .one (vi 0)])) by
  obtain ⟨rs, H', h1, h2⟩ := h
  rcases h2 with ⟨pr0, h2⟩ | ⟨pr0, pr1, h2⟩ | ⟨pr0, pr1, pr2, h2⟩ | ⟨pr0, pr1, pr2, pr3, h2⟩ | ⟨pr0, pr1, pr2, pr3, pr4, pr5, ex0, ex1, ex2, ex3, ex4, ex5, ex6, ex7, h2⟩
  · exact .inl (⟨pr0, rs, H', h1, h2⟩)
  · exact .inr (.inl (⟨pr0, pr1, rs, H', h1, h2⟩))
  · exact .inr (.inr (.inl (⟨pr0, pr1, pr2, rs, H', h1, h2⟩)))
  · exact .inr (.inr (.inr (.inl (⟨pr0, pr1, pr2, pr3, rs, H', h1, h2⟩))))
  · exact .inr (.inr (.inr (.inr (⟨pr0, pr1, pr2, pr3, pr4, pr5, ex0, ex1, ex2, ex3, ex4, ex5, ex6, ex7, rs, H', h1, h2⟩))))
 refine Runs.of (fn := Try.f24) Try.func24 rfl (by kernel_rfl) [(0, .y (.one (sv NI b nil cp0 S))), (1, xi hand), (2, .y (.agg [sv EN aa0 nn0 pp0 l0, sv EN aa1 nn1 pp1 l1, sv EN aa2 nn2 pp2 l2]))] (by kernel_rfl) ?_
 obtain ⟨n1, hn1⟩ : ∃ n, n = List.length ([] : HH) := ⟨_, rfl⟩
 obtain ⟨n2, hn2⟩ : ∃ n, n = List.length (([] ++ [.obj [sv EN aa0 nn0 pp0 l0, sv EN aa1 nn1 pp1 l1, sv EN aa2 nn2 pp2 l2]]) : HH) := ⟨_, rfl⟩
 refine rSq [(0, yp n1, ([] ++ [.obj [sv EN aa0 nn0 pp0 l0, sv EN aa1 nn1 pp1 l1, sv EN aa2 nn2 pp2 l2]])), (1, yp n2, (([] ++ [.obj [sv EN aa0 nn0 pp0 l0, sv EN aa1 nn1 pp1 l1, sv EN aa2 nn2 pp2 l2]]) ++ [.obj [nilC, vi 0, nilC, nilC, nilC]]))] [(0, .y (.one (sv NI b nil cp0 S))), (1, xi hand), (5, yp n1), (6, yp n2)] (([] ++ [.obj [sv EN aa0 nn0 pp0 l0, sv EN aa1 nn1 pp1 l1, sv EN aa2 nn2 pp2 l2]]) ++ [.obj [nilC, vi 0, nilC, nilC, nilC]])
   (cast (Jai (Ji (H := []) (t := 23) (ty := 0) (n := n1) (v := .agg [sv EN aa0 nn0 pp0 l0, sv EN aa1 nn1 pp1 l1, sv EN aa2 nn2 pp2 l2]) (cs := [sv EN aa0 nn0 pp0 l0, sv EN aa1 nn1 pp1 l1, sv EN aa2 nn2 pp2 l2]) hn1 (by kernel_rfl) (by kernel_rfl) (by kernel_rfl)) (JZ (Jg (H := ([] ++ [.obj [sv EN aa0 nn0 pp0 l0, sv EN aa1 nn1 pp1 l1, sv EN aa2 nn2 pp2 l2]])) (t := 41) (ty := 0) (n := n2) (cs := [nilC, vi 0, nilC, nilC, nilC]) hn2 (by kernel_rfl)))) (by kernel_rfl)) (by kernel_rfl) ?_
 refine wG (On.new' hn2 (.obj [nilC, vi 0, nilC, nilC, nilC]) (On.new' hn1 (.obj [sv EN aa0 nn0 pp0 l0, sv EN aa1 nn1 pp1 l1, sv EN aa2 nn2 pp2 l2]) (On.nil []))) ?_
 intro H3 hs4
 rcases Bool.eq_false_or_eq_true ((okW S)) with c5 | c5
 ·
  have hk6 := okW_len c5
  have hk7 := okW_len c5
  obtain ⟨nl9, cp10, hp11⟩ := rnew_ok b nil cp0 S (by first | rfl | omega | simp <;> omega) c5 (by omega) (by omega)
  obtain ⟨n13, hn13⟩ : ∃ n, n = List.length (H3 : HH) := ⟨_, rfl⟩
  refine rSq [(1, .tup [.agg [sv NI false nl9 cp10 S, vi 0, nilC, nilC, nilC], .one (vi 0)], H3), (5, yp n13, (H3 ++ [.obj [nilC, vi 0, nilC, nilC, nilC]])), (6, .tup [], (sto (H3 ++ [.obj [nilC, vi 0, nilC, nilC, nilC]]) n13 (.obj [sv NI false nl9 cp10 S, vi 0, nilC, nilC, nilC])))] [(0, .y (.one (sv NI b nil cp0 S))), (1, xi hand), (5, yp n1), (6, yp n2), (8, yp n13), (9, xi 0)] (sto (H3 ++ [.obj [nilC, vi 0, nilC, nilC, nilC]]) n13 (.obj [sv NI false nl9 cp10 S, vi 0, nilC, nilC, nilC]))
    (cast (Jai (Jo (H := H3) (g := 39) (x := .one (sv NI b nil cp0 S)) (res := [.agg [sv NI false nl9 cp10 S, vi 0, nilC, nilC, nilC], .one (vi 0)]) hp11 (by kernel_rfl) (by kernel_rfl)) (Jai (Jg (H := H3) (t := 41) (ty := 0) (n := n13) (cs := [nilC, vi 0, nilC, nilC, nilC]) hn13 (by kernel_rfl)) (JZ (Jc (t := 41) (off := 0) (v := .agg [sv NI false nl9 cp10 S, vi 0, nilC, nilC, nilC]) (On.at (On.new' hn13 (.obj [nilC, vi 0, nilC, nilC, nilC]) hs4) 2 rfl) (by kernel_rfl))))) (by kernel_rfl)) (by kernel_rfl) ?_
  refine wG (On.put (.obj [sv NI false nl9 cp10 S, vi 0, nilC, nilC, nilC]) (On.new' hn13 (.obj [nilC, vi 0, nilC, nilC, nilC]) hs4) 2 rfl) ?_
  intro H15 hs16
  refine wS ?_
  refine rS0 [(0, .y (.one (sv NI b nil cp0 S))), (1, xi hand), (5, yp n1), (6, yp n2), (8, yp n13), (9, xi 0), (22, xb false)] (by kernel_rfl) ?_
  refine wFk ?_
  obtain ⟨n17, hn17⟩ : ∃ n, n = List.length (H15 : HH) := ⟨_, rfl⟩
  refine rSq [(0, yp n17, (H15 ++ [.obj [nilC, vi 0, nilC, nilC, nilC]]))] [(0, .y (.one (sv NI b nil cp0 S))), (1, xi hand), (5, yp n1), (6, yp n2), (8, yp n13), (10, yp n17)] (H15 ++ [.obj [nilC, vi 0, nilC, nilC, nilC]])
    (cast (JZ (Jg (H := H15) (t := 41) (ty := 0) (n := n17) (cs := [nilC, vi 0, nilC, nilC, nilC]) hn17 (by kernel_rfl))) (by kernel_rfl)) (by kernel_rfl) ?_
  refine wG (On.new' hn17 (.obj [nilC, vi 0, nilC, nilC, nilC]) hs16) ?_
  intro H18 hs19
  refine wS ?_
  by_cases c20 : (hand : Int) < 0
  ·
   refine rSq [(1, xb true, H18)] [(1, xi hand), (5, yp n1), (6, yp n2), (8, yp n13), (10, yp n17), (32, xb true)] H18
     (cast (JZ (Jh (H := H18) (t := 3) (u := 3) (a := hand) (b := 0) (by omega))) (by kernel_rfl)) (by kernel_rfl) ?_
   refine wTa ?_
   refine rSq [(0, .y (.agg [nilC, vi 0, nilC, nilC, nilC]), H18), (1, .tup [], (sto H18 n2 (.obj [nilC, vi 0, nilC, nilC, nilC])))] [(6, yp n2), (7, xi 1)] (sto H18 n2 (.obj [nilC, vi 0, nilC, nilC, nilC]))
     (cast (Jai (Ja (t := 41) (off := 0) (v := .agg [nilC, vi 0, nilC, nilC, nilC]) (On.at hs19 3 rfl) (by kernel_rfl)) (JZ (Jc (t := 41) (off := 0) (v := .agg [nilC, vi 0, nilC, nilC, nilC]) (On.at hs19 1 rfl) (by kernel_rfl)))) (by kernel_rfl)) (by kernel_rfl) ?_
   refine wG (On.put (.obj [nilC, vi 0, nilC, nilC, nilC]) hs19 1 rfl) ?_
   intro H21 hs22
   refine wE ?_
   refine ⟨Or.inr rfl, [.agg [nilC, vi 0, nilC, nilC, nilC], .one (vi 1)], (cast (res_cons (P := pg) (e := [(6, yp n2), (7, xi 1)]) (H := H21) (res_cell (P := pg) (e := [(6, yp n2), (7, xi 1)]) (H := H21) (a := 6) (t := 41) (id := n2) (off := 0) (n := 5) (cs := [nilC, vi 0, nilC, nilC, nilC]) (cs' := [nilC, vi 0, nilC, nilC, nilC]) (v := .agg [nilC, vi 0, nilC, nilC, nilC]) (by kernel_rfl) (by kernel_rfl) (On.at hs22 1 rfl) (by kernel_rfl) (by kernel_rfl) (by kernel_rfl)) (res_cons (P := pg) (e := [(6, yp n2), (7, xi 1)]) (H := H21) (r := .tmp 7) (y := .one (vi 1)) (by kernel_rfl) res_nil)) (by kernel_rfl)), ?_⟩
   exact .inr (.inl (⟨c5, by omega, (by kernel_rfl)⟩))
  ·
   by_cases c23 : ((S.length : Int) : Int) ≤ hand
   ·
    refine rSq [(1, xb false, H18), (6, xb true, H18)] [(1, xi hand), (5, yp n1), (6, yp n2), (8, yp n13), (10, yp n17), (32, xb true)] H18
      (cast (Jai (Je (H := H18) (t := 3) (u := 3) (a := hand) (b := 0) (by omega)) (JZ (Jw (H := H18) (t := 3) (u := 3) (a := hand) (b := (S.length : Int)) (by omega)))) (by kernel_rfl)) (by kernel_rfl) ?_
    refine wTa ?_
    refine rSq [(0, .y (.agg [nilC, vi 0, nilC, nilC, nilC]), H18), (1, .tup [], (sto H18 n2 (.obj [nilC, vi 0, nilC, nilC, nilC])))] [(6, yp n2), (7, xi 1)] (sto H18 n2 (.obj [nilC, vi 0, nilC, nilC, nilC]))
      (cast (Jai (Ja (t := 41) (off := 0) (v := .agg [nilC, vi 0, nilC, nilC, nilC]) (On.at hs19 3 rfl) (by kernel_rfl)) (JZ (Jc (t := 41) (off := 0) (v := .agg [nilC, vi 0, nilC, nilC, nilC]) (On.at hs19 1 rfl) (by kernel_rfl)))) (by kernel_rfl)) (by kernel_rfl) ?_
    refine wG (On.put (.obj [nilC, vi 0, nilC, nilC, nilC]) hs19 1 rfl) ?_
    intro H24 hs25
    refine wE ?_
    refine ⟨Or.inr rfl, [.agg [nilC, vi 0, nilC, nilC, nilC], .one (vi 1)], (cast (res_cons (P := pg) (e := [(6, yp n2), (7, xi 1)]) (H := H24) (res_cell (P := pg) (e := [(6, yp n2), (7, xi 1)]) (H := H24) (a := 6) (t := 41) (id := n2) (off := 0) (n := 5) (cs := [nilC, vi 0, nilC, nilC, nilC]) (cs' := [nilC, vi 0, nilC, nilC, nilC]) (v := .agg [nilC, vi 0, nilC, nilC, nilC]) (by kernel_rfl) (by kernel_rfl) (On.at hs25 1 rfl) (by kernel_rfl) (by kernel_rfl) (by kernel_rfl)) (res_cons (P := pg) (e := [(6, yp n2), (7, xi 1)]) (H := H24) (r := .tmp 7) (y := .one (vi 1)) (by kernel_rfl) res_nil)) (by kernel_rfl)), ?_⟩
    exact .inr (.inl (⟨c5, by omega, (by kernel_rfl)⟩))
   ·
    refine rSq [(1, xb false, H18), (6, xb false, H18)] [(1, xi hand), (5, yp n1), (6, yp n2), (8, yp n13), (10, yp n17), (32, xb false)] H18
      (cast (Jai (Je (H := H18) (t := 3) (u := 3) (a := hand) (b := 0) (by omega)) (JZ (Jy (H := H18) (t := 3) (u := 3) (a := hand) (b := (S.length : Int)) (by omega)))) (by kernel_rfl)) (by kernel_rfl) ?_
    refine wFk ?_
    refine rSq [(2, .tup [], (sto H18 n13 (.obj [sv NI false nl9 cp10 S, vi hand, nilC, nilC, nilC])))] [(5, yp n1), (6, yp n2), (8, yp n13), (10, yp n17)] (sto H18 n13 (.obj [sv NI false nl9 cp10 S, vi hand, nilC, nilC, nilC]))
      (cast (JZ (Jc (t := 3) (off := 1) (v := .one (vi hand)) (On.at hs19 2 rfl) (by kernel_rfl))) (by kernel_rfl)) (by kernel_rfl) ?_
    refine wG (On.put (.obj [sv NI false nl9 cp10 S, vi hand, nilC, nilC, nilC]) hs19 2 rfl) ?_
    intro H26 hs27
    refine rS0 [(5, yp n1), (6, yp n2), (8, yp n13), (10, yp n17), (11, xb false)] (by kernel_rfl) ?_
    refine wS ?_
    refine rS0 [(5, yp n1), (6, yp n2), (8, yp n13), (10, yp n17), (11, xb false), (12, xi 0)] (by kernel_rfl) ?_
    refine wB ?_
    refine Wp.loopU [(5, yp n1), (6, yp n2), (8, yp n13), (10, yp n17), (11, xb false), (12, xi 0)] (some ([5, 6, 8, 10, 11, 12], false)) (List.length H26) (by kernel_rfl) ?_
    refine WpL.step ?_
    refine wS ?_
    refine rS0 [(5, yp n1), (6, yp n2), (8, yp n13), (10, yp n17), (11, xb false), (12, xi 0), (37, xb true)] (by kernel_rfl) ?_
    refine wTk ?_
    refine wS (wB ?_)
    refine rS0 [(5, yp n1), (6, yp n2), (8, yp n13), (10, yp n17), (11, xb false), (12, xi 0), (13, .y (.one (nilC)))] (by kernel_rfl) ?_
    refine wS ?_
    refine rS0 [(5, yp n1), (6, yp n2), (8, yp n13), (10, yp n17), (11, xb false), (12, xi 0), (13, .y (.one (nilC))), (14, xi 0)] (by kernel_rfl) ?_
    refine wB ?_
    have hs28 : On [pts n1 (.obj [sv EN aa0 nn0 pp0 l0, sv EN aa1 nn1 pp1 l1, sv EN aa2 nn2 pp2 l2]), pts n2 (.obj [nilC, vi 0, nilC, nilC, nilC]), pts n13 (.obj [sv NI false nl9 cp10 S, vi hand, nilC, nilC, nilC]), pts n17 (.obj [nilC, vi 0, nilC, nilC, nilC]), itemsP EN (nilC) (l0.take (0 : Int).toNat)] H26 := On.shut (cs := [pts n1 (.obj [sv EN aa0 nn0 pp0 l0, sv EN aa1 nn1 pp1 l1, sv EN aa2 nn2 pp2 l2]), pts n2 (.obj [nilC, vi 0, nilC, nilC, nilC]), pts n13 (.obj [sv NI false nl9 cp10 S, vi hand, nilC, nilC, nilC]), pts n17 (.obj [nilC, vi 0, nilC, nilC, nilC])]) [] [0, 1, 2, 3] (by kernel_rfl) (fun _ _ => by rw [show (l0.take (0 : Int).toNat) = ([] : List EN.T) from (by simp)]; exact items_nil) hs27
    refine Wp.loop (T := HH × Int × C) (fun t => match t with | (H30, i0, cv0) => (((l0.length : Int) - i0).toNat : Nat)) (fun t => match t with | (H30, i0, cv0) => ([(5, yp n1), (6, yp n2), (8, yp n13), (10, yp n17), (11, xb false), (12, xi 0), (13, .y (.one (cv0))), (14, xi i0)] : Env)) (fun t => match t with | (H30, i0, cv0) => (H30 : HH))
      (fun t => match t with | (H30, i0, cv0) => (On [pts n1 (.obj [sv EN aa0 nn0 pp0 l0, sv EN aa1 nn1 pp1 l1, sv EN aa2 nn2 pp2 l2]), pts n2 (.obj [nilC, vi 0, nilC, nilC, nilC]), pts n13 (.obj [sv NI false nl9 cp10 S, vi hand, nilC, nilC, nilC]), pts n17 (.obj [nilC, vi 0, nilC, nilC, nilC]), itemsP EN cv0 (l0.take (i0 : Int).toNat)] H30 ∧ (0 ≤ i0) ∧ (i0 ≤ (l0.length : Int)) ∧ (((l0.take (i0 : Int).toNat).length : Int) = i0) ∧ (([] ++ pids (l0.take i0.toNat)).Nodup) : Prop)) (H26, 0, (nilC)) (by kernel_rfl) (⟨(On.pick [0, 1, 2, 3, 4] [] (by kernel_rfl) hs28), by omega, by omega, by simp, by simp⟩) ?_
    rintro ⟨H30, i0, cv0⟩ ⟨hs31, g1i0, g2i0, g3i0, g4i0⟩
    show Wp _ _ _ _ [(5, yp n1), (6, yp n2), (8, yp n13), (10, yp n17), (11, xb false), (12, xi 0), (13, .y (.one (cv0))), (14, xi i0)] H30 _
    refine wS ?_
    by_cases c32 : (i0 : Int) < (l0.length : Int)
    ·
     refine rSq [(3, .y (.one (sv EN aa0 nn0 pp0 l0)), H30), (5, xb true, H30)] [(5, yp n1), (6, yp n2), (8, yp n13), (10, yp n17), (11, xb false), (12, xi 0), (13, .y (.one (cv0))), (14, xi i0), (45, xb true)] H30
       (cast (Jai (Ja (t := 22) (off := 0) (v := .one (sv EN aa0 nn0 pp0 l0)) (On.at hs31 0 rfl) (by kernel_rfl)) (JZ (Jh (H := H30) (t := 3) (u := 3) (a := i0) (b := (l0.length : Int)) (by omega)))) (by kernel_rfl)) (by kernel_rfl) ?_
     refine wTk ?_
     refine wS (wB ?_)
     refine wS ?_
     refine rS0 [(5, yp n1), (6, yp n2), (8, yp n13), (10, yp n17), (11, xb false), (12, xi 0), (13, .y (.one (cv0))), (14, xi i0), (15, xi 0)] (by kernel_rfl) ?_
     refine wB ?_
     obtain ⟨x33, hx33⟩ : ∃ x : EN.T, l0[(i0 : Int).toNat]? = some x := get_of (by omega)
     refine Wp.loop (T := HH × Int) (fun t => match t with | (H35, j0) => ((i0 - j0).toNat : Nat)) (fun t => match t with | (H35, j0) => ([(5, yp n1), (6, yp n2), (8, yp n13), (10, yp n17), (11, xb false), (12, xi 0), (13, .y (.one (cv0))), (14, xi i0), (15, xi j0)] : Env)) (fun t => match t with | (H35, j0) => (H35 : HH))
       (fun t => match t with | (H35, j0) => (On [pts n1 (.obj [sv EN aa0 nn0 pp0 l0, sv EN aa1 nn1 pp1 l1, sv EN aa2 nn2 pp2 l2]), pts n2 (.obj [nilC, vi 0, nilC, nilC, nilC]), pts n13 (.obj [sv NI false nl9 cp10 S, vi hand, nilC, nilC, nilC]), pts n17 (.obj [nilC, vi 0, nilC, nilC, nilC]), itemsP EN cv0 (l0.take (i0 : Int).toNat)] H35 ∧ (0 ≤ j0) ∧ (j0 ≤ i0) ∧ (∀ y ∈ l0.take j0.toNat, eqb PN y.1 x33.1 = false) : Prop)) (H30, 0) (by kernel_rfl) (⟨(On.pick [0, 1, 2, 3, 4] [] (by kernel_rfl) hs31), by omega, by omega, by simp⟩) ?_
     rintro ⟨H35, j0⟩ ⟨hs36, k1j0, k2j0, k3j0⟩
     show Wp _ _ _ _ [(5, yp n1), (6, yp n2), (8, yp n13), (10, yp n17), (11, xb false), (12, xi 0), (13, .y (.one (cv0))), (14, xi i0), (15, xi j0)] H35 _
     refine wS ?_
     by_cases c37 : (j0 : Int) < i0
     ·
      refine rSq [(2, xb true, H35)] [(5, yp n1), (6, yp n2), (8, yp n13), (10, yp n17), (11, xb false), (12, xi 0), (13, .y (.one (cv0))), (14, xi i0), (15, xi j0), (50, xb true)] H35
        (cast (JZ (Jh (H := H35) (t := 3) (u := 3) (a := j0) (b := i0) (by omega))) (by kernel_rfl)) (by kernel_rfl) ?_
      refine wTk ?_
      refine wS (wB ?_)
      obtain ⟨x38, hx38⟩ : ∃ x, l0[(j0 : Int).toNat]? = some x := get_of (by omega)
      rcases Bool.eq_false_or_eq_true ((eqb PN x38.1 x33.1)) with c39 | c39
      ·
       refine rSq [(2, .y (.one (sv EN aa0 nn0 pp0 l0)), H35), (4, .y (.one (.rd ([vi x38.1.1, vi x38.1.2.1, vb x38.2.1] ++ (l0.drop ((j0 : Int).toNat + 1)).flatMap (enc EN)))), H35), (9, .y (.one (sv EN aa0 nn0 pp0 l0)), H35), (11, .y (.one (.rd ([vi x33.1.1, vi x33.1.2.1, vb x33.2.1] ++ (l0.drop ((i0 : Int).toNat + 1)).flatMap (enc EN)))), H35), (14, xb true, H35)] [(5, yp n1), (6, yp n2), (8, yp n13), (10, yp n17), (11, xb false), (12, xi 0), (13, .y (.one (cv0))), (14, xi i0), (15, xi j0), (67, xb true)] H35
         (cast (Jai (Ja (t := 22) (off := 0) (v := .one (sv EN aa0 nn0 pp0 l0)) (On.at hs36 0 rfl) (by kernel_rfl)) (Jai (Jf (H := H35) (s := EN) (b := aa0) (nil := nn0) (capd := pp0) (t := 22) (el := 35) (i := j0) Try.underlying22 (by kernel_rfl) (by kernel_rfl) (by omega) hx38) (Jai (Ja (t := 22) (off := 0) (v := .one (sv EN aa0 nn0 pp0 l0)) (On.at hs36 0 rfl) (by kernel_rfl)) (Jai (Jf (H := H35) (s := EN) (b := aa0) (nil := nn0) (capd := pp0) (t := 22) (el := 35) (i := i0) Try.underlying22 (by kernel_rfl) (by kernel_rfl) (by omega) hx33) (JZ (Jt (H := H35) (s := PN) (t := 33) (u := 33) (ty := 0) (x := x38.1) (y := x33.1) (r := true) (by kernel_rfl) c39)))))) (by kernel_rfl)) (by kernel_rfl) ?_
       refine wTa ?_
       refine rSq [(0, .y (.agg [nilC, vi 0, nilC, nilC, nilC]), H35), (1, .tup [], (sto H35 n2 (.obj [nilC, vi 0, nilC, nilC, nilC])))] [(6, yp n2), (7, xi 1)] (sto H35 n2 (.obj [nilC, vi 0, nilC, nilC, nilC]))
         (cast (Jai (Ja (t := 41) (off := 0) (v := .agg [nilC, vi 0, nilC, nilC, nilC]) (On.at hs36 3 rfl) (by kernel_rfl)) (JZ (Jc (t := 41) (off := 0) (v := .agg [nilC, vi 0, nilC, nilC, nilC]) (On.at hs36 1 rfl) (by kernel_rfl)))) (by kernel_rfl)) (by kernel_rfl) ?_
       refine wG (On.put (.obj [nilC, vi 0, nilC, nilC, nilC]) hs36 1 rfl) ?_
       intro H40 hs41
       refine wE ?_
       refine ⟨Or.inr rfl, [.agg [nilC, vi 0, nilC, nilC, nilC], .one (vi 1)], (cast (res_cons (P := pg) (e := [(6, yp n2), (7, xi 1)]) (H := H40) (res_cell (P := pg) (e := [(6, yp n2), (7, xi 1)]) (H := H40) (a := 6) (t := 41) (id := n2) (off := 0) (n := 5) (cs := [nilC, vi 0, nilC, nilC, nilC]) (cs' := [nilC, vi 0, nilC, nilC, nilC]) (v := .agg [nilC, vi 0, nilC, nilC, nilC]) (by kernel_rfl) (by kernel_rfl) (On.at hs41 1 rfl) (by kernel_rfl) (by kernel_rfl) (by kernel_rfl)) (res_cons (P := pg) (e := [(6, yp n2), (7, xi 1)]) (H := H40) (r := .tmp 7) (y := .one (vi 1)) (by kernel_rfl) res_nil)) (by kernel_rfl)), ?_⟩
       exact .inr (.inr (.inl (⟨c5, by omega, (fun h => by have := nd_ne (ok0 h) k1j0 (by omega) hx33 hx38; rw [this] at c39; cases c39), (by kernel_rfl)⟩)))
      ·
       refine rSq [(2, .y (.one (sv EN aa0 nn0 pp0 l0)), H35), (4, .y (.one (.rd ([vi x38.1.1, vi x38.1.2.1, vb x38.2.1] ++ (l0.drop ((j0 : Int).toNat + 1)).flatMap (enc EN)))), H35), (9, .y (.one (sv EN aa0 nn0 pp0 l0)), H35), (11, .y (.one (.rd ([vi x33.1.1, vi x33.1.2.1, vb x33.2.1] ++ (l0.drop ((i0 : Int).toNat + 1)).flatMap (enc EN)))), H35), (14, xb false, H35)] [(5, yp n1), (6, yp n2), (8, yp n13), (10, yp n17), (11, xb false), (12, xi 0), (13, .y (.one (cv0))), (14, xi i0), (15, xi j0), (67, xb false)] H35
         (cast (Jai (Ja (t := 22) (off := 0) (v := .one (sv EN aa0 nn0 pp0 l0)) (On.at hs36 0 rfl) (by kernel_rfl)) (Jai (Jf (H := H35) (s := EN) (b := aa0) (nil := nn0) (capd := pp0) (t := 22) (el := 35) (i := j0) Try.underlying22 (by kernel_rfl) (by kernel_rfl) (by omega) hx38) (Jai (Ja (t := 22) (off := 0) (v := .one (sv EN aa0 nn0 pp0 l0)) (On.at hs36 0 rfl) (by kernel_rfl)) (Jai (Jf (H := H35) (s := EN) (b := aa0) (nil := nn0) (capd := pp0) (t := 22) (el := 35) (i := i0) Try.underlying22 (by kernel_rfl) (by kernel_rfl) (by omega) hx33) (JZ (Jt (H := H35) (s := PN) (t := 33) (u := 33) (ty := 0) (x := x38.1) (y := x33.1) (r := false) (by kernel_rfl) c39)))))) (by kernel_rfl)) (by kernel_rfl) ?_
       refine wFk ?_
       refine wR [(1, xi (j0 + 1), H35)] [(5, yp n1), (6, yp n2), (8, yp n13), (10, yp n17), (11, xb false), (12, xi 0), (13, .y (.one (cv0))), (14, xi i0), (15, xi (j0 + 1))] H35
         (cast (JZ (Jj (H := H35) (t := 3) (u := 3) (a := j0) (b := 1) (c := (j0 + 1)) (by omega))) (by kernel_rfl)) (by kernel_rfl) ?_
       exact ⟨(H35, (j0 + 1)), by kernel_rfl, (⟨(On.pick [0, 1, 2, 3, 4] [] (by kernel_rfl) hs36), by omega, by omega, idx_step k1j0 k3j0 hx38 c39⟩), (by show (_ : Nat) < _; simp only []; omega)⟩
     ·
      refine rSq [(2, xb false, H35)] [(5, yp n1), (6, yp n2), (8, yp n13), (10, yp n17), (11, xb false), (12, xi 0), (13, .y (.one (cv0))), (14, xi i0), (15, xi j0), (50, xb false)] H35
        (cast (JZ (Je (H := H35) (t := 3) (u := 3) (a := j0) (b := i0) (by omega))) (by kernel_rfl)) (by kernel_rfl) ?_
      refine wFa ?_
      refine wX ?_
      refine Eq.mpr (if_pos rfl) ?_
      refine wS ?_
      have hz42 : posI x33.1 ([] : List EN.T) = -1 := rfl
      refine rSq [(0, .y (.agg [sv NI false nl9 cp10 S, vi hand, nilC, nilC, nilC]), H35), (3, .y (.one (sv EN aa0 nn0 pp0 l0)), H35), (5, .y (.one (.rd ([vi x33.1.1, vi x33.1.2.1, vb x33.2.1] ++ (l0.drop ((i0 : Int).toNat + 1)).flatMap (enc EN)))), H35), (8, xb false, H35)] [(5, yp n1), (6, yp n2), (8, yp n13), (10, yp n17), (11, xb false), (12, xi 0), (13, .y (.one (cv0))), (14, xi i0), (77, xb false)] H35
        (cast (Jai (Ja (t := 41) (off := 0) (v := .agg [sv NI false nl9 cp10 S, vi hand, nilC, nilC, nilC]) (On.at hs36 2 rfl) (by kernel_rfl)) (Jai (Ja (t := 22) (off := 0) (v := .one (sv EN aa0 nn0 pp0 l0)) (On.at hs36 0 rfl) (by kernel_rfl)) (Jai (Jf (H := H35) (s := EN) (b := aa0) (nil := nn0) (capd := pp0) (t := 22) (el := 35) (i := i0) Try.underlying22 (by kernel_rfl) (by kernel_rfl) (by omega) hx33) (JZ (Jx (H := H35) (g := 40) (x := .agg [sv NI false nl9 cp10 S, vi hand, nilC, nilC, nilC]) (y := .agg [vi x33.1.1, vi x33.1.2.1]) (res := [.one (vb false)]) (rstands_3 false nl9 cp10 false true true false true true false true true S hand ([] : List EN.T) ([] : List EN.T) ([] : List EN.T) x33.1 (by first | rfl | omega | (simp only [List.length_nil]; omega) | simp <;> omega) (by first | rfl | omega | (simp only [List.length_nil]; omega) | simp <;> omega) (by first | rfl | omega | (simp only [List.length_nil]; omega) | simp <;> omega) (by omega) (by omega) (by omega)) (by kernel_rfl) (by kernel_rfl)))))) (by kernel_rfl)) (by kernel_rfl) ?_
      refine wFk ?_
      obtain ⟨cv46, H47, ho48, hs49⟩ := or_append_items (P := pg) (A := an) (s := EN) (t := 22) (u := 22) (el := 35) (by_ := 24) (z := [vi 0, vi 0, vb false]) (ty := 0) (y := .sl false false true [vi x33.1.1, vi x33.1.2.1, vb x33.2.1] 1) (lm := ([x33])) (m := 1) hs36 4 rfl ((slCells_slO (H := H35) (s := EN) (b := false) (nil := false) (capd := true) (l := [x33]) (n := 1) (by first | rfl | omega | simp <;> omega))) (by kernel_rfl) (by kernel_rfl) (by kernel_rfl) (by kernel_rfl) (by kernel_rfl) (by kernel_rfl) (by kernel_rfl) (by first | rfl | omega | simp <;> omega) (by omega) (by omega)
      have hs49l : (((l0.take (i0 : Int).toNat) ++ ([x33])).length : Int) = (((l0.take (i0 : Int).toNat).length : Int) + 1) := by { first | omega | (simp only [List.length_append]; omega) | (simp; done) | (simp; omega) }
      refine rKq [(3, .y (.one (sv EN aa0 nn0 pp0 l0)), H35), (5, .y (.one (.rd ([vi x33.1.1, vi x33.1.2.1, vb x33.2.1] ++ (l0.drop ((i0 : Int).toNat + 1)).flatMap (enc EN)))), H35), (8, .y (.one (cv46)), H47)] [(5, yp n1), (6, yp n2), (8, yp n13), (10, yp n17), (11, xb false), (12, xi 0), (13, .y (.one (cv46))), (14, xi i0)] H47
        (cast (Jai (Ja (t := 22) (off := 0) (v := .one (sv EN aa0 nn0 pp0 l0)) (On.at hs36 0 rfl) (by kernel_rfl)) (Jai (Jf (H := H35) (s := EN) (b := aa0) (nil := nn0) (capd := pp0) (t := 22) (el := 35) (i := i0) Try.underlying22 (by kernel_rfl) (by kernel_rfl) (by omega) hx33) (JZ ho48))) (by kernel_rfl)) (by kernel_rfl) ?_
      refine wG hs49 ?_
      intro H50 hs51
      refine wK ?_
      refine wR [(1, xi (i0 + 1), H50)] [(5, yp n1), (6, yp n2), (8, yp n13), (10, yp n17), (11, xb false), (12, xi 0), (13, .y (.one (cv46))), (14, xi (i0 + 1))] H50
        (cast (JZ (Jj (H := H50) (t := 3) (u := 3) (a := i0) (b := 1) (c := (i0 + 1)) (by omega))) (by kernel_rfl)) (by kernel_rfl) ?_
      exact ⟨(H50, (i0 + 1), cv46), by kernel_rfl, (⟨(On.pick [0, 1, 2, 3, 4] [] (by kernel_rfl) (On.mono (A' := itemsP EN cv46 (l0.take ((i0 + 1) : Int).toNat)) 4 rfl (fun _ x => by rw [← (show ((l0.take (i0 : Int).toNat) ++ ([x33])) = (l0.take ((i0 + 1) : Int).toNat) from (tk_snoc g1i0 hx33))]; exact x) hs51)), by omega, by omega, by simp only [List.length_take]; omega, nd_load (j := j0) g4i0 g1i0 (by omega) hx33 k3j0 (by simp)⟩), (by show (_ : Nat) < _; simp only []; omega)⟩
    ·
     refine rSq [(3, .y (.one (sv EN aa0 nn0 pp0 l0)), H30), (5, xb false, H30)] [(5, yp n1), (6, yp n2), (8, yp n13), (10, yp n17), (11, xb false), (12, xi 0), (13, .y (.one (cv0))), (14, xi i0), (45, xb false)] H30
       (cast (Jai (Ja (t := 22) (off := 0) (v := .one (sv EN aa0 nn0 pp0 l0)) (On.at hs31 0 rfl) (by kernel_rfl)) (JZ (Je (H := H30) (t := 3) (u := 3) (a := i0) (b := (l0.length : Int)) (by omega)))) (by kernel_rfl)) (by kernel_rfl) ?_
     refine wFa ?_
     refine wX ?_
     refine Eq.mpr (if_pos rfl) ?_
     refine Wp.meet 1 (T := HH × Bool) (fun t => match t with | (H52, fu0) => ([(5, yp n1), (6, yp n2), (8, yp n13), (10, yp n17), (11, xb fu0), (12, xi 0), (13, .y (.one (cv0)))] : Env)) (fun t => match t with | (H52, fu0) => (H52 : HH)) (fun t => match t with | (H52, fu0) => (On [pts n1 (.obj [sv EN aa0 nn0 pp0 l0, sv EN aa1 nn1 pp1 l1, sv EN aa2 nn2 pp2 l2]), pts n2 (.obj [nilC, vi 0, nilC, nilC, nilC]), pts n13 (.obj [sv NI false nl9 cp10 S, vi hand, nilC, nilC, nilC]), pts n17 (.obj [nilC, vi 0, nilC, nilC, nilC]), itemsP EN cv0 l0] H52 ∧ (fu0 = true → (64 < (l0.length : Int))) ∧ (fu0 = false → ((l0.length : Int) ≤ 64)) : Prop)) ?_ ?_
     ·
      rintro ⟨H52, fu0⟩ ⟨hs53, hfa0, hfb0⟩
      show Wp _ _ _ _ [(5, yp n1), (6, yp n2), (8, yp n13), (10, yp n17), (11, xb fu0), (12, xi 0), (13, .y (.one (cv0)))] H52 _
      have hv55 : C.live cv0 = true := items_live hs53 4 rfl
      refine rKq [(4, .tup [], (sto H52 n13 (.obj [sv NI false nl9 cp10 S, vi hand, cv0, nilC, nilC])))] [(5, yp n1), (6, yp n2), (8, yp n13), (10, yp n17), (11, xb fu0), (12, xi 0)] (sto H52 n13 (.obj [sv NI false nl9 cp10 S, vi hand, cv0, nilC, nilC]))
        (cast (JZ (Jp (H := H52) (t := 22) (ty := 0) (id := n13) (off := 2) (cs := [sv NI false nl9 cp10 S, vi hand, nilC, nilC, nilC]) (cs' := [sv NI false nl9 cp10 S, vi hand, cv0, nilC, nilC]) (v := .one (cv0)) (On.at hs53 2 rfl) (by kernel_rfl) (live_cons hv55 live_nil) (by kernel_rfl) (by kernel_rfl))) (by kernel_rfl)) (by kernel_rfl) ?_
      refine wG (On.put (.obj [sv NI false nl9 cp10 S, vi hand, cv0, nilC, nilC]) hs53 2 rfl) ?_
      intro H56 hs57
      refine wK ?_
      refine wR [] [(5, yp n1), (6, yp n2), (8, yp n13), (10, yp n17), (11, xb fu0), (12, xi 1)] H56
        (cast trivial (by kernel_rfl)) (by kernel_rfl) ?_
      refine ⟨_, _, rfl, ?_⟩
      refine WpL.step ?_
      refine wS ?_
      refine rS0 [(5, yp n1), (6, yp n2), (8, yp n13), (10, yp n17), (11, xb fu0), (12, xi 1), (37, xb true)] (by kernel_rfl) ?_
      refine wTk ?_
      refine wS (wB ?_)
      refine rS0 [(5, yp n1), (6, yp n2), (8, yp n13), (10, yp n17), (11, xb fu0), (12, xi 1), (13, .y (.one (nilC)))] (by kernel_rfl) ?_
      refine wS ?_
      refine rS0 [(5, yp n1), (6, yp n2), (8, yp n13), (10, yp n17), (11, xb fu0), (12, xi 1), (13, .y (.one (nilC))), (14, xi 0)] (by kernel_rfl) ?_
      refine wB ?_
      have hs58 : On [pts n1 (.obj [sv EN aa0 nn0 pp0 l0, sv EN aa1 nn1 pp1 l1, sv EN aa2 nn2 pp2 l2]), pts n2 (.obj [nilC, vi 0, nilC, nilC, nilC]), pts n13 (.obj [sv NI false nl9 cp10 S, vi hand, cv0, nilC, nilC]), pts n17 (.obj [nilC, vi 0, nilC, nilC, nilC]), itemsP EN cv0 l0, itemsP EN (nilC) (l1.take (0 : Int).toNat)] H56 := On.shut (cs := [pts n1 (.obj [sv EN aa0 nn0 pp0 l0, sv EN aa1 nn1 pp1 l1, sv EN aa2 nn2 pp2 l2]), pts n2 (.obj [nilC, vi 0, nilC, nilC, nilC]), pts n13 (.obj [sv NI false nl9 cp10 S, vi hand, cv0, nilC, nilC]), pts n17 (.obj [nilC, vi 0, nilC, nilC, nilC]), itemsP EN cv0 l0]) [] [0, 1, 2, 3, 4] (by kernel_rfl) (fun _ _ => by rw [show (l1.take (0 : Int).toNat) = ([] : List EN.T) from (by simp)]; exact items_nil) hs57
      refine Wp.loop (T := HH × Int × C) (fun t => match t with | (H60, i1, cv1) => (((l1.length : Int) - i1).toNat : Nat)) (fun t => match t with | (H60, i1, cv1) => ([(5, yp n1), (6, yp n2), (8, yp n13), (10, yp n17), (11, xb fu0), (12, xi 1), (13, .y (.one (cv1))), (14, xi i1)] : Env)) (fun t => match t with | (H60, i1, cv1) => (H60 : HH))
        (fun t => match t with | (H60, i1, cv1) => (On [pts n1 (.obj [sv EN aa0 nn0 pp0 l0, sv EN aa1 nn1 pp1 l1, sv EN aa2 nn2 pp2 l2]), pts n2 (.obj [nilC, vi 0, nilC, nilC, nilC]), pts n13 (.obj [sv NI false nl9 cp10 S, vi hand, cv0, nilC, nilC]), pts n17 (.obj [nilC, vi 0, nilC, nilC, nilC]), itemsP EN cv0 l0, itemsP EN cv1 (l1.take (i1 : Int).toNat)] H60 ∧ (0 ≤ i1) ∧ (i1 ≤ (l1.length : Int)) ∧ (((l1.take (i1 : Int).toNat).length : Int) = i1) ∧ ((pids l0 ++ pids (l1.take i1.toNat)).Nodup) : Prop)) (H56, 0, (nilC)) (by kernel_rfl) (⟨(On.pick [0, 1, 2, 3, 4, 5] [] (by kernel_rfl) hs58), by omega, by omega, by simp, nd_next g4i0 (by omega)⟩) ?_
      rintro ⟨H60, i1, cv1⟩ ⟨hs61, g1i1, g2i1, g3i1, g4i1⟩
      show Wp _ _ _ _ [(5, yp n1), (6, yp n2), (8, yp n13), (10, yp n17), (11, xb fu0), (12, xi 1), (13, .y (.one (cv1))), (14, xi i1)] H60 _
      refine wS ?_
      by_cases c62 : (i1 : Int) < (l1.length : Int)
      ·
       refine rSq [(3, .y (.one (sv EN aa1 nn1 pp1 l1)), H60), (5, xb true, H60)] [(5, yp n1), (6, yp n2), (8, yp n13), (10, yp n17), (11, xb fu0), (12, xi 1), (13, .y (.one (cv1))), (14, xi i1), (45, xb true)] H60
         (cast (Jai (Ja (t := 22) (off := 1) (v := .one (sv EN aa1 nn1 pp1 l1)) (On.at hs61 0 rfl) (by kernel_rfl)) (JZ (Jh (H := H60) (t := 3) (u := 3) (a := i1) (b := (l1.length : Int)) (by omega)))) (by kernel_rfl)) (by kernel_rfl) ?_
       refine wTk ?_
       refine wS (wB ?_)
       refine wS ?_
       refine rS0 [(5, yp n1), (6, yp n2), (8, yp n13), (10, yp n17), (11, xb fu0), (12, xi 1), (13, .y (.one (cv1))), (14, xi i1), (15, xi 0)] (by kernel_rfl) ?_
       refine wB ?_
       obtain ⟨x63, hx63⟩ : ∃ x : EN.T, l1[(i1 : Int).toNat]? = some x := get_of (by omega)
       refine Wp.loop (T := HH × Int) (fun t => match t with | (H65, j1) => ((i1 - j1).toNat : Nat)) (fun t => match t with | (H65, j1) => ([(5, yp n1), (6, yp n2), (8, yp n13), (10, yp n17), (11, xb fu0), (12, xi 1), (13, .y (.one (cv1))), (14, xi i1), (15, xi j1)] : Env)) (fun t => match t with | (H65, j1) => (H65 : HH))
         (fun t => match t with | (H65, j1) => (On [pts n1 (.obj [sv EN aa0 nn0 pp0 l0, sv EN aa1 nn1 pp1 l1, sv EN aa2 nn2 pp2 l2]), pts n2 (.obj [nilC, vi 0, nilC, nilC, nilC]), pts n13 (.obj [sv NI false nl9 cp10 S, vi hand, cv0, nilC, nilC]), pts n17 (.obj [nilC, vi 0, nilC, nilC, nilC]), itemsP EN cv0 l0, itemsP EN cv1 (l1.take (i1 : Int).toNat)] H65 ∧ (0 ≤ j1) ∧ (j1 ≤ i1) ∧ (∀ y ∈ l1.take j1.toNat, eqb PN y.1 x63.1 = false) : Prop)) (H60, 0) (by kernel_rfl) (⟨(On.pick [0, 1, 2, 3, 4, 5] [] (by kernel_rfl) hs61), by omega, by omega, by simp⟩) ?_
       rintro ⟨H65, j1⟩ ⟨hs66, k1j1, k2j1, k3j1⟩
       show Wp _ _ _ _ [(5, yp n1), (6, yp n2), (8, yp n13), (10, yp n17), (11, xb fu0), (12, xi 1), (13, .y (.one (cv1))), (14, xi i1), (15, xi j1)] H65 _
       refine wS ?_
       by_cases c67 : (j1 : Int) < i1
       ·
        refine rSq [(2, xb true, H65)] [(5, yp n1), (6, yp n2), (8, yp n13), (10, yp n17), (11, xb fu0), (12, xi 1), (13, .y (.one (cv1))), (14, xi i1), (15, xi j1), (50, xb true)] H65
          (cast (JZ (Jh (H := H65) (t := 3) (u := 3) (a := j1) (b := i1) (by omega))) (by kernel_rfl)) (by kernel_rfl) ?_
        refine wTk ?_
        refine wS (wB ?_)
        obtain ⟨x68, hx68⟩ : ∃ x, l1[(j1 : Int).toNat]? = some x := get_of (by omega)
        rcases Bool.eq_false_or_eq_true ((eqb PN x68.1 x63.1)) with c69 | c69
        ·
         refine rSq [(2, .y (.one (sv EN aa1 nn1 pp1 l1)), H65), (4, .y (.one (.rd ([vi x68.1.1, vi x68.1.2.1, vb x68.2.1] ++ (l1.drop ((j1 : Int).toNat + 1)).flatMap (enc EN)))), H65), (9, .y (.one (sv EN aa1 nn1 pp1 l1)), H65), (11, .y (.one (.rd ([vi x63.1.1, vi x63.1.2.1, vb x63.2.1] ++ (l1.drop ((i1 : Int).toNat + 1)).flatMap (enc EN)))), H65), (14, xb true, H65)] [(5, yp n1), (6, yp n2), (8, yp n13), (10, yp n17), (11, xb fu0), (12, xi 1), (13, .y (.one (cv1))), (14, xi i1), (15, xi j1), (67, xb true)] H65
           (cast (Jai (Ja (t := 22) (off := 1) (v := .one (sv EN aa1 nn1 pp1 l1)) (On.at hs66 0 rfl) (by kernel_rfl)) (Jai (Jf (H := H65) (s := EN) (b := aa1) (nil := nn1) (capd := pp1) (t := 22) (el := 35) (i := j1) Try.underlying22 (by kernel_rfl) (by kernel_rfl) (by omega) hx68) (Jai (Ja (t := 22) (off := 1) (v := .one (sv EN aa1 nn1 pp1 l1)) (On.at hs66 0 rfl) (by kernel_rfl)) (Jai (Jf (H := H65) (s := EN) (b := aa1) (nil := nn1) (capd := pp1) (t := 22) (el := 35) (i := i1) Try.underlying22 (by kernel_rfl) (by kernel_rfl) (by omega) hx63) (JZ (Jt (H := H65) (s := PN) (t := 33) (u := 33) (ty := 0) (x := x68.1) (y := x63.1) (r := true) (by kernel_rfl) c69)))))) (by kernel_rfl)) (by kernel_rfl) ?_
         refine wTa ?_
         refine rSq [(0, .y (.agg [nilC, vi 0, nilC, nilC, nilC]), H65), (1, .tup [], (sto H65 n2 (.obj [nilC, vi 0, nilC, nilC, nilC])))] [(6, yp n2), (7, xi 1)] (sto H65 n2 (.obj [nilC, vi 0, nilC, nilC, nilC]))
           (cast (Jai (Ja (t := 41) (off := 0) (v := .agg [nilC, vi 0, nilC, nilC, nilC]) (On.at hs66 3 rfl) (by kernel_rfl)) (JZ (Jc (t := 41) (off := 0) (v := .agg [nilC, vi 0, nilC, nilC, nilC]) (On.at hs66 1 rfl) (by kernel_rfl)))) (by kernel_rfl)) (by kernel_rfl) ?_
         refine wG (On.put (.obj [nilC, vi 0, nilC, nilC, nilC]) hs66 1 rfl) ?_
         intro H70 hs71
         refine wE ?_
         refine ⟨Or.inr rfl, [.agg [nilC, vi 0, nilC, nilC, nilC], .one (vi 1)], (cast (res_cons (P := pg) (e := [(6, yp n2), (7, xi 1)]) (H := H70) (res_cell (P := pg) (e := [(6, yp n2), (7, xi 1)]) (H := H70) (a := 6) (t := 41) (id := n2) (off := 0) (n := 5) (cs := [nilC, vi 0, nilC, nilC, nilC]) (cs' := [nilC, vi 0, nilC, nilC, nilC]) (v := .agg [nilC, vi 0, nilC, nilC, nilC]) (by kernel_rfl) (by kernel_rfl) (On.at hs71 1 rfl) (by kernel_rfl) (by kernel_rfl) (by kernel_rfl)) (res_cons (P := pg) (e := [(6, yp n2), (7, xi 1)]) (H := H70) (r := .tmp 7) (y := .one (vi 1)) (by kernel_rfl) res_nil)) (by kernel_rfl)), ?_⟩
         exact .inr (.inr (.inl (⟨c5, by omega, (fun h => by have := nd_ne (ok1 h) k1j1 (by omega) hx63 hx68; rw [this] at c69; cases c69), (by kernel_rfl)⟩)))
        ·
         refine rSq [(2, .y (.one (sv EN aa1 nn1 pp1 l1)), H65), (4, .y (.one (.rd ([vi x68.1.1, vi x68.1.2.1, vb x68.2.1] ++ (l1.drop ((j1 : Int).toNat + 1)).flatMap (enc EN)))), H65), (9, .y (.one (sv EN aa1 nn1 pp1 l1)), H65), (11, .y (.one (.rd ([vi x63.1.1, vi x63.1.2.1, vb x63.2.1] ++ (l1.drop ((i1 : Int).toNat + 1)).flatMap (enc EN)))), H65), (14, xb false, H65)] [(5, yp n1), (6, yp n2), (8, yp n13), (10, yp n17), (11, xb fu0), (12, xi 1), (13, .y (.one (cv1))), (14, xi i1), (15, xi j1), (67, xb false)] H65
           (cast (Jai (Ja (t := 22) (off := 1) (v := .one (sv EN aa1 nn1 pp1 l1)) (On.at hs66 0 rfl) (by kernel_rfl)) (Jai (Jf (H := H65) (s := EN) (b := aa1) (nil := nn1) (capd := pp1) (t := 22) (el := 35) (i := j1) Try.underlying22 (by kernel_rfl) (by kernel_rfl) (by omega) hx68) (Jai (Ja (t := 22) (off := 1) (v := .one (sv EN aa1 nn1 pp1 l1)) (On.at hs66 0 rfl) (by kernel_rfl)) (Jai (Jf (H := H65) (s := EN) (b := aa1) (nil := nn1) (capd := pp1) (t := 22) (el := 35) (i := i1) Try.underlying22 (by kernel_rfl) (by kernel_rfl) (by omega) hx63) (JZ (Jt (H := H65) (s := PN) (t := 33) (u := 33) (ty := 0) (x := x68.1) (y := x63.1) (r := false) (by kernel_rfl) c69)))))) (by kernel_rfl)) (by kernel_rfl) ?_
         refine wFk ?_
         refine wR [(1, xi (j1 + 1), H65)] [(5, yp n1), (6, yp n2), (8, yp n13), (10, yp n17), (11, xb fu0), (12, xi 1), (13, .y (.one (cv1))), (14, xi i1), (15, xi (j1 + 1))] H65
           (cast (JZ (Jj (H := H65) (t := 3) (u := 3) (a := j1) (b := 1) (c := (j1 + 1)) (by omega))) (by kernel_rfl)) (by kernel_rfl) ?_
         exact ⟨(H65, (j1 + 1)), by kernel_rfl, (⟨(On.pick [0, 1, 2, 3, 4, 5] [] (by kernel_rfl) hs66), by omega, by omega, idx_step k1j1 k3j1 hx68 c69⟩), (by show (_ : Nat) < _; simp only []; omega)⟩
       ·
        refine rSq [(2, xb false, H65)] [(5, yp n1), (6, yp n2), (8, yp n13), (10, yp n17), (11, xb fu0), (12, xi 1), (13, .y (.one (cv1))), (14, xi i1), (15, xi j1), (50, xb false)] H65
          (cast (JZ (Je (H := H65) (t := 3) (u := 3) (a := j1) (b := i1) (by omega))) (by kernel_rfl)) (by kernel_rfl) ?_
        refine wFa ?_
        refine wX ?_
        refine Eq.mpr (if_pos rfl) ?_
        refine wS ?_
        obtain ⟨fb72, fn73, fp74, hf75⟩ := items_snap hs66 4 rfl
        have hz76 := posI_bd x63.1 l0
        have hz78 : posI x63.1 ([] : List EN.T) = -1 := rfl
        by_cases c82 : (0 : Int) ≤ (posI x63.1 l0)
        ·
         refine rSq [(0, .y (.agg [sv NI false nl9 cp10 S, vi hand, cv0, nilC, nilC]), H65), (3, .y (.one (sv EN aa1 nn1 pp1 l1)), H65), (5, .y (.one (.rd ([vi x63.1.1, vi x63.1.2.1, vb x63.2.1] ++ (l1.drop ((i1 : Int).toNat + 1)).flatMap (enc EN)))), H65), (8, xb true, H65)] [(5, yp n1), (6, yp n2), (8, yp n13), (10, yp n17), (11, xb fu0), (12, xi 1), (13, .y (.one (cv1))), (14, xi i1), (77, xb true)] H65
           (cast (Jai (Ja (t := 41) (off := 0) (v := .agg [sv NI false nl9 cp10 S, vi hand, cv0, nilC, nilC]) (On.at hs66 2 rfl) (by kernel_rfl)) (Jai (Ja (t := 22) (off := 1) (v := .one (sv EN aa1 nn1 pp1 l1)) (On.at hs66 0 rfl) (by kernel_rfl)) (Jai (Jf (H := H65) (s := EN) (b := aa1) (nil := nn1) (capd := pp1) (t := 22) (el := 35) (i := i1) Try.underlying22 (by kernel_rfl) (by kernel_rfl) (by omega) hx63) (JZ (Jr (H := H65) (g := 40) (vals := [.y (.agg [sv NI false nl9 cp10 S, vi hand, cv0, nilC, nilC]), .y (.agg [vi x63.1.1, vi x63.1.2.1])]) (xs0 := [.agg [sv NI false nl9 cp10 S, vi hand, cv0, nilC, nilC], .agg [vi x63.1.1, vi x63.1.2.1]]) (xs1 := [.agg [sv NI false nl9 cp10 S, vi hand, sv EN fb72 fn73 fp74 l0, nilC, nilC], .agg [vi x63.1.1, vi x63.1.2.1]]) (res := [.one (vb true)]) (ats := #[]) (ty := 0) (v := xb true) [.tmp 0, .tmp 1] (by kernel_rfl) (by kernel_rfl) (snap_cons (snap_agg (mapM_cons' (by kernel_rfl) (mapM_cons' (by kernel_rfl) (mapM_cons' hf75 (mapM_cons' (by kernel_rfl) (mapM_cons' (by kernel_rfl) mapM_nil')))))) (snap_cons (by kernel_rfl) (snap_nil))) (rstands_0 false nl9 cp10 fb72 fn73 fp74 false true true false true true S hand l0 ([] : List EN.T) ([] : List EN.T) x63.1 (by first | rfl | omega | (simp only [List.length_nil]; omega) | simp <;> omega) (by first | rfl | omega | (simp only [List.length_nil]; omega) | simp <;> omega) (by first | rfl | omega | (simp only [List.length_nil]; omega) | simp <;> omega) (by omega)) (by kernel_rfl)))))) (by kernel_rfl)) (by kernel_rfl) ?_
         refine wTa ?_
         refine rSq [(0, .y (.agg [nilC, vi 0, nilC, nilC, nilC]), H65), (1, .tup [], (sto H65 n2 (.obj [nilC, vi 0, nilC, nilC, nilC])))] [(6, yp n2), (7, xi 1)] (sto H65 n2 (.obj [nilC, vi 0, nilC, nilC, nilC]))
           (cast (Jai (Ja (t := 41) (off := 0) (v := .agg [nilC, vi 0, nilC, nilC, nilC]) (On.at hs66 3 rfl) (by kernel_rfl)) (JZ (Jc (t := 41) (off := 0) (v := .agg [nilC, vi 0, nilC, nilC, nilC]) (On.at hs66 1 rfl) (by kernel_rfl)))) (by kernel_rfl)) (by kernel_rfl) ?_
         refine wG (On.put (.obj [nilC, vi 0, nilC, nilC, nilC]) hs66 1 rfl) ?_
         intro H86 hs87
         refine wE ?_
         refine ⟨Or.inr rfl, [.agg [nilC, vi 0, nilC, nilC, nilC], .one (vi 1)], (cast (res_cons (P := pg) (e := [(6, yp n2), (7, xi 1)]) (H := H86) (res_cell (P := pg) (e := [(6, yp n2), (7, xi 1)]) (H := H86) (a := 6) (t := 41) (id := n2) (off := 0) (n := 5) (cs := [nilC, vi 0, nilC, nilC, nilC]) (cs' := [nilC, vi 0, nilC, nilC, nilC]) (v := .agg [nilC, vi 0, nilC, nilC, nilC]) (by kernel_rfl) (by kernel_rfl) (On.at hs87 1 rfl) (by kernel_rfl) (by kernel_rfl) (by kernel_rfl)) (res_cons (P := pg) (e := [(6, yp n2), (7, xi 1)]) (H := H86) (r := .tmp 7) (y := .one (vi 1)) (by kernel_rfl) res_nil)) (by kernel_rfl)), ?_⟩
         exact .inr (.inr (.inl (⟨c5, by omega, (fun h => absurd (not_in (ok01 h) hx63 : posI x63.1 l0 < 0) (by omega)), (by kernel_rfl)⟩)))
        ·
         refine rSq [(0, .y (.agg [sv NI false nl9 cp10 S, vi hand, cv0, nilC, nilC]), H65), (3, .y (.one (sv EN aa1 nn1 pp1 l1)), H65), (5, .y (.one (.rd ([vi x63.1.1, vi x63.1.2.1, vb x63.2.1] ++ (l1.drop ((i1 : Int).toNat + 1)).flatMap (enc EN)))), H65), (8, xb false, H65)] [(5, yp n1), (6, yp n2), (8, yp n13), (10, yp n17), (11, xb fu0), (12, xi 1), (13, .y (.one (cv1))), (14, xi i1), (77, xb false)] H65
           (cast (Jai (Ja (t := 41) (off := 0) (v := .agg [sv NI false nl9 cp10 S, vi hand, cv0, nilC, nilC]) (On.at hs66 2 rfl) (by kernel_rfl)) (Jai (Ja (t := 22) (off := 1) (v := .one (sv EN aa1 nn1 pp1 l1)) (On.at hs66 0 rfl) (by kernel_rfl)) (Jai (Jf (H := H65) (s := EN) (b := aa1) (nil := nn1) (capd := pp1) (t := 22) (el := 35) (i := i1) Try.underlying22 (by kernel_rfl) (by kernel_rfl) (by omega) hx63) (JZ (Jr (H := H65) (g := 40) (vals := [.y (.agg [sv NI false nl9 cp10 S, vi hand, cv0, nilC, nilC]), .y (.agg [vi x63.1.1, vi x63.1.2.1])]) (xs0 := [.agg [sv NI false nl9 cp10 S, vi hand, cv0, nilC, nilC], .agg [vi x63.1.1, vi x63.1.2.1]]) (xs1 := [.agg [sv NI false nl9 cp10 S, vi hand, sv EN fb72 fn73 fp74 l0, nilC, nilC], .agg [vi x63.1.1, vi x63.1.2.1]]) (res := [.one (vb false)]) (ats := #[]) (ty := 0) (v := xb false) [.tmp 0, .tmp 1] (by kernel_rfl) (by kernel_rfl) (snap_cons (snap_agg (mapM_cons' (by kernel_rfl) (mapM_cons' (by kernel_rfl) (mapM_cons' hf75 (mapM_cons' (by kernel_rfl) (mapM_cons' (by kernel_rfl) mapM_nil')))))) (snap_cons (by kernel_rfl) (snap_nil))) (rstands_3 false nl9 cp10 fb72 fn73 fp74 false true true false true true S hand l0 ([] : List EN.T) ([] : List EN.T) x63.1 (by first | rfl | omega | (simp only [List.length_nil]; omega) | simp <;> omega) (by first | rfl | omega | (simp only [List.length_nil]; omega) | simp <;> omega) (by first | rfl | omega | (simp only [List.length_nil]; omega) | simp <;> omega) (by omega) (by omega) (by omega)) (by kernel_rfl)))))) (by kernel_rfl)) (by kernel_rfl) ?_
         refine wFk ?_
         obtain ⟨cv91, H92, ho93, hs94⟩ := or_append_items (P := pg) (A := an) (s := EN) (t := 22) (u := 22) (el := 35) (by_ := 24) (z := [vi 0, vi 0, vb false]) (ty := 0) (y := .sl false false true [vi x63.1.1, vi x63.1.2.1, vb x63.2.1] 1) (lm := ([x63])) (m := 1) hs66 5 rfl ((slCells_slO (H := H65) (s := EN) (b := false) (nil := false) (capd := true) (l := [x63]) (n := 1) (by first | rfl | omega | simp <;> omega))) (by kernel_rfl) (by kernel_rfl) (by kernel_rfl) (by kernel_rfl) (by kernel_rfl) (by kernel_rfl) (by kernel_rfl) (by first | rfl | omega | simp <;> omega) (by omega) (by omega)
         have hs94l : (((l1.take (i1 : Int).toNat) ++ ([x63])).length : Int) = (((l1.take (i1 : Int).toNat).length : Int) + 1) := by { first | omega | (simp only [List.length_append]; omega) | (simp; done) | (simp; omega) }
         refine rKq [(3, .y (.one (sv EN aa1 nn1 pp1 l1)), H65), (5, .y (.one (.rd ([vi x63.1.1, vi x63.1.2.1, vb x63.2.1] ++ (l1.drop ((i1 : Int).toNat + 1)).flatMap (enc EN)))), H65), (8, .y (.one (cv91)), H92)] [(5, yp n1), (6, yp n2), (8, yp n13), (10, yp n17), (11, xb fu0), (12, xi 1), (13, .y (.one (cv91))), (14, xi i1)] H92
           (cast (Jai (Ja (t := 22) (off := 1) (v := .one (sv EN aa1 nn1 pp1 l1)) (On.at hs66 0 rfl) (by kernel_rfl)) (Jai (Jf (H := H65) (s := EN) (b := aa1) (nil := nn1) (capd := pp1) (t := 22) (el := 35) (i := i1) Try.underlying22 (by kernel_rfl) (by kernel_rfl) (by omega) hx63) (JZ ho93))) (by kernel_rfl)) (by kernel_rfl) ?_
         refine wG hs94 ?_
         intro H95 hs96
         refine wK ?_
         refine wR [(1, xi (i1 + 1), H95)] [(5, yp n1), (6, yp n2), (8, yp n13), (10, yp n17), (11, xb fu0), (12, xi 1), (13, .y (.one (cv91))), (14, xi (i1 + 1))] H95
           (cast (JZ (Jj (H := H95) (t := 3) (u := 3) (a := i1) (b := 1) (c := (i1 + 1)) (by omega))) (by kernel_rfl)) (by kernel_rfl) ?_
         exact ⟨(H95, (i1 + 1), cv91), by kernel_rfl, (⟨(On.pick [0, 1, 2, 3, 4, 5] [] (by kernel_rfl) (On.mono (A' := itemsP EN cv91 (l1.take ((i1 + 1) : Int).toNat)) 5 rfl (fun _ x => by rw [← (show ((l1.take (i1 : Int).toNat) ++ ([x63])) = (l1.take ((i1 + 1) : Int).toNat) from (tk_snoc g1i1 hx63))]; exact x) hs96)), by omega, by omega, by simp only [List.length_take]; omega, nd_load (j := j1) g4i1 g1i1 (by omega) hx63 k3j1 (posI_neg.1 (by omega))⟩), (by show (_ : Nat) < _; simp only []; omega)⟩
      ·
       refine rSq [(3, .y (.one (sv EN aa1 nn1 pp1 l1)), H60), (5, xb false, H60)] [(5, yp n1), (6, yp n2), (8, yp n13), (10, yp n17), (11, xb fu0), (12, xi 1), (13, .y (.one (cv1))), (14, xi i1), (45, xb false)] H60
         (cast (Jai (Ja (t := 22) (off := 1) (v := .one (sv EN aa1 nn1 pp1 l1)) (On.at hs61 0 rfl) (by kernel_rfl)) (JZ (Je (H := H60) (t := 3) (u := 3) (a := i1) (b := (l1.length : Int)) (by omega)))) (by kernel_rfl)) (by kernel_rfl) ?_
       refine wFa ?_
       refine wX ?_
       refine Eq.mpr (if_pos rfl) ?_
       refine Wp.meet 1 (T := HH × Bool) (fun t => match t with | (H97, fu1) => ([(5, yp n1), (6, yp n2), (8, yp n13), (10, yp n17), (11, xb fu1), (12, xi 1), (13, .y (.one (cv1)))] : Env)) (fun t => match t with | (H97, fu1) => (H97 : HH)) (fun t => match t with | (H97, fu1) => (On [pts n1 (.obj [sv EN aa0 nn0 pp0 l0, sv EN aa1 nn1 pp1 l1, sv EN aa2 nn2 pp2 l2]), pts n2 (.obj [nilC, vi 0, nilC, nilC, nilC]), pts n13 (.obj [sv NI false nl9 cp10 S, vi hand, cv0, nilC, nilC]), pts n17 (.obj [nilC, vi 0, nilC, nilC, nilC]), itemsP EN cv0 l0, itemsP EN cv1 l1] H97 ∧ (fu1 = true → (64 < (l0.length : Int) ∨ 64 < (l1.length : Int))) ∧ (fu1 = false → ((l0.length : Int) ≤ 64 ∧ (l1.length : Int) ≤ 64)) : Prop)) ?_ ?_
       ·
        rintro ⟨H97, fu1⟩ ⟨hs98, hfa1, hfb1⟩
        show Wp _ _ _ _ [(5, yp n1), (6, yp n2), (8, yp n13), (10, yp n17), (11, xb fu1), (12, xi 1), (13, .y (.one (cv1)))] H97 _
        have hv100 : C.live cv1 = true := items_live hs98 5 rfl
        refine rKq [(4, .tup [], (sto H97 n13 (.obj [sv NI false nl9 cp10 S, vi hand, cv0, cv1, nilC])))] [(5, yp n1), (6, yp n2), (8, yp n13), (10, yp n17), (11, xb fu1), (12, xi 1)] (sto H97 n13 (.obj [sv NI false nl9 cp10 S, vi hand, cv0, cv1, nilC]))
          (cast (JZ (Jp (H := H97) (t := 22) (ty := 0) (id := n13) (off := 3) (cs := [sv NI false nl9 cp10 S, vi hand, cv0, nilC, nilC]) (cs' := [sv NI false nl9 cp10 S, vi hand, cv0, cv1, nilC]) (v := .one (cv1)) (On.at hs98 2 rfl) (by kernel_rfl) (live_cons hv100 live_nil) (by kernel_rfl) (by kernel_rfl))) (by kernel_rfl)) (by kernel_rfl) ?_
        refine wG (On.put (.obj [sv NI false nl9 cp10 S, vi hand, cv0, cv1, nilC]) hs98 2 rfl) ?_
        intro H101 hs102
        refine wK ?_
        refine wR [] [(5, yp n1), (6, yp n2), (8, yp n13), (10, yp n17), (11, xb fu1), (12, xi 2)] H101
          (cast trivial (by kernel_rfl)) (by kernel_rfl) ?_
        refine ⟨_, _, rfl, ?_⟩
        refine WpL.step ?_
        refine wS ?_
        refine rS0 [(5, yp n1), (6, yp n2), (8, yp n13), (10, yp n17), (11, xb fu1), (12, xi 2), (37, xb true)] (by kernel_rfl) ?_
        refine wTk ?_
        refine wS (wB ?_)
        refine rS0 [(5, yp n1), (6, yp n2), (8, yp n13), (10, yp n17), (11, xb fu1), (12, xi 2), (13, .y (.one (nilC)))] (by kernel_rfl) ?_
        refine wS ?_
        refine rS0 [(5, yp n1), (6, yp n2), (8, yp n13), (10, yp n17), (11, xb fu1), (12, xi 2), (13, .y (.one (nilC))), (14, xi 0)] (by kernel_rfl) ?_
        refine wB ?_
        have hs103 : On [pts n1 (.obj [sv EN aa0 nn0 pp0 l0, sv EN aa1 nn1 pp1 l1, sv EN aa2 nn2 pp2 l2]), pts n2 (.obj [nilC, vi 0, nilC, nilC, nilC]), pts n13 (.obj [sv NI false nl9 cp10 S, vi hand, cv0, cv1, nilC]), pts n17 (.obj [nilC, vi 0, nilC, nilC, nilC]), itemsP EN cv0 l0, itemsP EN cv1 l1, itemsP EN (nilC) (l2.take (0 : Int).toNat)] H101 := On.shut (cs := [pts n1 (.obj [sv EN aa0 nn0 pp0 l0, sv EN aa1 nn1 pp1 l1, sv EN aa2 nn2 pp2 l2]), pts n2 (.obj [nilC, vi 0, nilC, nilC, nilC]), pts n13 (.obj [sv NI false nl9 cp10 S, vi hand, cv0, cv1, nilC]), pts n17 (.obj [nilC, vi 0, nilC, nilC, nilC]), itemsP EN cv0 l0, itemsP EN cv1 l1]) [] [0, 1, 2, 3, 4, 5] (by kernel_rfl) (fun _ _ => by rw [show (l2.take (0 : Int).toNat) = ([] : List EN.T) from (by simp)]; exact items_nil) hs102
        refine Wp.loop (T := HH × Int × C) (fun t => match t with | (H105, i2, cv2) => (((l2.length : Int) - i2).toNat : Nat)) (fun t => match t with | (H105, i2, cv2) => ([(5, yp n1), (6, yp n2), (8, yp n13), (10, yp n17), (11, xb fu1), (12, xi 2), (13, .y (.one (cv2))), (14, xi i2)] : Env)) (fun t => match t with | (H105, i2, cv2) => (H105 : HH))
          (fun t => match t with | (H105, i2, cv2) => (On [pts n1 (.obj [sv EN aa0 nn0 pp0 l0, sv EN aa1 nn1 pp1 l1, sv EN aa2 nn2 pp2 l2]), pts n2 (.obj [nilC, vi 0, nilC, nilC, nilC]), pts n13 (.obj [sv NI false nl9 cp10 S, vi hand, cv0, cv1, nilC]), pts n17 (.obj [nilC, vi 0, nilC, nilC, nilC]), itemsP EN cv0 l0, itemsP EN cv1 l1, itemsP EN cv2 (l2.take (i2 : Int).toNat)] H105 ∧ (0 ≤ i2) ∧ (i2 ≤ (l2.length : Int)) ∧ (((l2.take (i2 : Int).toNat).length : Int) = i2) ∧ (((pids l0 ++ pids l1) ++ pids (l2.take i2.toNat)).Nodup) : Prop)) (H101, 0, (nilC)) (by kernel_rfl) (⟨(On.pick [0, 1, 2, 3, 4, 5, 6] [] (by kernel_rfl) hs103), by omega, by omega, by simp, nd_next g4i1 (by omega)⟩) ?_
        rintro ⟨H105, i2, cv2⟩ ⟨hs106, g1i2, g2i2, g3i2, g4i2⟩
        show Wp _ _ _ _ [(5, yp n1), (6, yp n2), (8, yp n13), (10, yp n17), (11, xb fu1), (12, xi 2), (13, .y (.one (cv2))), (14, xi i2)] H105 _
        refine wS ?_
        by_cases c107 : (i2 : Int) < (l2.length : Int)
        ·
         refine rSq [(3, .y (.one (sv EN aa2 nn2 pp2 l2)), H105), (5, xb true, H105)] [(5, yp n1), (6, yp n2), (8, yp n13), (10, yp n17), (11, xb fu1), (12, xi 2), (13, .y (.one (cv2))), (14, xi i2), (45, xb true)] H105
           (cast (Jai (Ja (t := 22) (off := 2) (v := .one (sv EN aa2 nn2 pp2 l2)) (On.at hs106 0 rfl) (by kernel_rfl)) (JZ (Jh (H := H105) (t := 3) (u := 3) (a := i2) (b := (l2.length : Int)) (by omega)))) (by kernel_rfl)) (by kernel_rfl) ?_
         refine wTk ?_
         refine wS (wB ?_)
         refine wS ?_
         refine rS0 [(5, yp n1), (6, yp n2), (8, yp n13), (10, yp n17), (11, xb fu1), (12, xi 2), (13, .y (.one (cv2))), (14, xi i2), (15, xi 0)] (by kernel_rfl) ?_
         refine wB ?_
         obtain ⟨x108, hx108⟩ : ∃ x : EN.T, l2[(i2 : Int).toNat]? = some x := get_of (by omega)
         refine Wp.loop (T := HH × Int) (fun t => match t with | (H110, j2) => ((i2 - j2).toNat : Nat)) (fun t => match t with | (H110, j2) => ([(5, yp n1), (6, yp n2), (8, yp n13), (10, yp n17), (11, xb fu1), (12, xi 2), (13, .y (.one (cv2))), (14, xi i2), (15, xi j2)] : Env)) (fun t => match t with | (H110, j2) => (H110 : HH))
           (fun t => match t with | (H110, j2) => (On [pts n1 (.obj [sv EN aa0 nn0 pp0 l0, sv EN aa1 nn1 pp1 l1, sv EN aa2 nn2 pp2 l2]), pts n2 (.obj [nilC, vi 0, nilC, nilC, nilC]), pts n13 (.obj [sv NI false nl9 cp10 S, vi hand, cv0, cv1, nilC]), pts n17 (.obj [nilC, vi 0, nilC, nilC, nilC]), itemsP EN cv0 l0, itemsP EN cv1 l1, itemsP EN cv2 (l2.take (i2 : Int).toNat)] H110 ∧ (0 ≤ j2) ∧ (j2 ≤ i2) ∧ (∀ y ∈ l2.take j2.toNat, eqb PN y.1 x108.1 = false) : Prop)) (H105, 0) (by kernel_rfl) (⟨(On.pick [0, 1, 2, 3, 4, 5, 6] [] (by kernel_rfl) hs106), by omega, by omega, by simp⟩) ?_
         rintro ⟨H110, j2⟩ ⟨hs111, k1j2, k2j2, k3j2⟩
         show Wp _ _ _ _ [(5, yp n1), (6, yp n2), (8, yp n13), (10, yp n17), (11, xb fu1), (12, xi 2), (13, .y (.one (cv2))), (14, xi i2), (15, xi j2)] H110 _
         refine wS ?_
         by_cases c112 : (j2 : Int) < i2
         ·
          refine rSq [(2, xb true, H110)] [(5, yp n1), (6, yp n2), (8, yp n13), (10, yp n17), (11, xb fu1), (12, xi 2), (13, .y (.one (cv2))), (14, xi i2), (15, xi j2), (50, xb true)] H110
            (cast (JZ (Jh (H := H110) (t := 3) (u := 3) (a := j2) (b := i2) (by omega))) (by kernel_rfl)) (by kernel_rfl) ?_
          refine wTk ?_
          refine wS (wB ?_)
          obtain ⟨x113, hx113⟩ : ∃ x, l2[(j2 : Int).toNat]? = some x := get_of (by omega)
          rcases Bool.eq_false_or_eq_true ((eqb PN x113.1 x108.1)) with c114 | c114
          ·
           refine rSq [(2, .y (.one (sv EN aa2 nn2 pp2 l2)), H110), (4, .y (.one (.rd ([vi x113.1.1, vi x113.1.2.1, vb x113.2.1] ++ (l2.drop ((j2 : Int).toNat + 1)).flatMap (enc EN)))), H110), (9, .y (.one (sv EN aa2 nn2 pp2 l2)), H110), (11, .y (.one (.rd ([vi x108.1.1, vi x108.1.2.1, vb x108.2.1] ++ (l2.drop ((i2 : Int).toNat + 1)).flatMap (enc EN)))), H110), (14, xb true, H110)] [(5, yp n1), (6, yp n2), (8, yp n13), (10, yp n17), (11, xb fu1), (12, xi 2), (13, .y (.one (cv2))), (14, xi i2), (15, xi j2), (67, xb true)] H110
             (cast (Jai (Ja (t := 22) (off := 2) (v := .one (sv EN aa2 nn2 pp2 l2)) (On.at hs111 0 rfl) (by kernel_rfl)) (Jai (Jf (H := H110) (s := EN) (b := aa2) (nil := nn2) (capd := pp2) (t := 22) (el := 35) (i := j2) Try.underlying22 (by kernel_rfl) (by kernel_rfl) (by omega) hx113) (Jai (Ja (t := 22) (off := 2) (v := .one (sv EN aa2 nn2 pp2 l2)) (On.at hs111 0 rfl) (by kernel_rfl)) (Jai (Jf (H := H110) (s := EN) (b := aa2) (nil := nn2) (capd := pp2) (t := 22) (el := 35) (i := i2) Try.underlying22 (by kernel_rfl) (by kernel_rfl) (by omega) hx108) (JZ (Jt (H := H110) (s := PN) (t := 33) (u := 33) (ty := 0) (x := x113.1) (y := x108.1) (r := true) (by kernel_rfl) c114)))))) (by kernel_rfl)) (by kernel_rfl) ?_
           refine wTa ?_
           refine rSq [(0, .y (.agg [nilC, vi 0, nilC, nilC, nilC]), H110), (1, .tup [], (sto H110 n2 (.obj [nilC, vi 0, nilC, nilC, nilC])))] [(6, yp n2), (7, xi 1)] (sto H110 n2 (.obj [nilC, vi 0, nilC, nilC, nilC]))
             (cast (Jai (Ja (t := 41) (off := 0) (v := .agg [nilC, vi 0, nilC, nilC, nilC]) (On.at hs111 3 rfl) (by kernel_rfl)) (JZ (Jc (t := 41) (off := 0) (v := .agg [nilC, vi 0, nilC, nilC, nilC]) (On.at hs111 1 rfl) (by kernel_rfl)))) (by kernel_rfl)) (by kernel_rfl) ?_
           refine wG (On.put (.obj [nilC, vi 0, nilC, nilC, nilC]) hs111 1 rfl) ?_
           intro H115 hs116
           refine wE ?_
           refine ⟨Or.inr rfl, [.agg [nilC, vi 0, nilC, nilC, nilC], .one (vi 1)], (cast (res_cons (P := pg) (e := [(6, yp n2), (7, xi 1)]) (H := H115) (res_cell (P := pg) (e := [(6, yp n2), (7, xi 1)]) (H := H115) (a := 6) (t := 41) (id := n2) (off := 0) (n := 5) (cs := [nilC, vi 0, nilC, nilC, nilC]) (cs' := [nilC, vi 0, nilC, nilC, nilC]) (v := .agg [nilC, vi 0, nilC, nilC, nilC]) (by kernel_rfl) (by kernel_rfl) (On.at hs116 1 rfl) (by kernel_rfl) (by kernel_rfl) (by kernel_rfl)) (res_cons (P := pg) (e := [(6, yp n2), (7, xi 1)]) (H := H115) (r := .tmp 7) (y := .one (vi 1)) (by kernel_rfl) res_nil)) (by kernel_rfl)), ?_⟩
           exact .inr (.inr (.inl (⟨c5, by omega, (fun h => by have := nd_ne (ok2 h) k1j2 (by omega) hx108 hx113; rw [this] at c114; cases c114), (by kernel_rfl)⟩)))
          ·
           refine rSq [(2, .y (.one (sv EN aa2 nn2 pp2 l2)), H110), (4, .y (.one (.rd ([vi x113.1.1, vi x113.1.2.1, vb x113.2.1] ++ (l2.drop ((j2 : Int).toNat + 1)).flatMap (enc EN)))), H110), (9, .y (.one (sv EN aa2 nn2 pp2 l2)), H110), (11, .y (.one (.rd ([vi x108.1.1, vi x108.1.2.1, vb x108.2.1] ++ (l2.drop ((i2 : Int).toNat + 1)).flatMap (enc EN)))), H110), (14, xb false, H110)] [(5, yp n1), (6, yp n2), (8, yp n13), (10, yp n17), (11, xb fu1), (12, xi 2), (13, .y (.one (cv2))), (14, xi i2), (15, xi j2), (67, xb false)] H110
             (cast (Jai (Ja (t := 22) (off := 2) (v := .one (sv EN aa2 nn2 pp2 l2)) (On.at hs111 0 rfl) (by kernel_rfl)) (Jai (Jf (H := H110) (s := EN) (b := aa2) (nil := nn2) (capd := pp2) (t := 22) (el := 35) (i := j2) Try.underlying22 (by kernel_rfl) (by kernel_rfl) (by omega) hx113) (Jai (Ja (t := 22) (off := 2) (v := .one (sv EN aa2 nn2 pp2 l2)) (On.at hs111 0 rfl) (by kernel_rfl)) (Jai (Jf (H := H110) (s := EN) (b := aa2) (nil := nn2) (capd := pp2) (t := 22) (el := 35) (i := i2) Try.underlying22 (by kernel_rfl) (by kernel_rfl) (by omega) hx108) (JZ (Jt (H := H110) (s := PN) (t := 33) (u := 33) (ty := 0) (x := x113.1) (y := x108.1) (r := false) (by kernel_rfl) c114)))))) (by kernel_rfl)) (by kernel_rfl) ?_
           refine wFk ?_
           refine wR [(1, xi (j2 + 1), H110)] [(5, yp n1), (6, yp n2), (8, yp n13), (10, yp n17), (11, xb fu1), (12, xi 2), (13, .y (.one (cv2))), (14, xi i2), (15, xi (j2 + 1))] H110
             (cast (JZ (Jj (H := H110) (t := 3) (u := 3) (a := j2) (b := 1) (c := (j2 + 1)) (by omega))) (by kernel_rfl)) (by kernel_rfl) ?_
           exact ⟨(H110, (j2 + 1)), by kernel_rfl, (⟨(On.pick [0, 1, 2, 3, 4, 5, 6] [] (by kernel_rfl) hs111), by omega, by omega, idx_step k1j2 k3j2 hx113 c114⟩), (by show (_ : Nat) < _; simp only []; omega)⟩
         ·
          refine rSq [(2, xb false, H110)] [(5, yp n1), (6, yp n2), (8, yp n13), (10, yp n17), (11, xb fu1), (12, xi 2), (13, .y (.one (cv2))), (14, xi i2), (15, xi j2), (50, xb false)] H110
            (cast (JZ (Je (H := H110) (t := 3) (u := 3) (a := j2) (b := i2) (by omega))) (by kernel_rfl)) (by kernel_rfl) ?_
          refine wFa ?_
          refine wX ?_
          refine Eq.mpr (if_pos rfl) ?_
          refine wS ?_
          obtain ⟨fb117, fn118, fp119, hf120⟩ := items_snap hs111 5 rfl
          obtain ⟨fb121, fn122, fp123, hf124⟩ := items_snap hs111 4 rfl
          have hz125 := posI_bd x108.1 l0
          have hz127 := posI_bd x108.1 l1
          have hz130 : posI x108.1 ([] : List EN.T) = -1 := rfl
          by_cases c134 : (0 : Int) ≤ (posI x108.1 l0)
          ·
           refine rSq [(0, .y (.agg [sv NI false nl9 cp10 S, vi hand, cv0, cv1, nilC]), H110), (3, .y (.one (sv EN aa2 nn2 pp2 l2)), H110), (5, .y (.one (.rd ([vi x108.1.1, vi x108.1.2.1, vb x108.2.1] ++ (l2.drop ((i2 : Int).toNat + 1)).flatMap (enc EN)))), H110), (8, xb true, H110)] [(5, yp n1), (6, yp n2), (8, yp n13), (10, yp n17), (11, xb fu1), (12, xi 2), (13, .y (.one (cv2))), (14, xi i2), (77, xb true)] H110
             (cast (Jai (Ja (t := 41) (off := 0) (v := .agg [sv NI false nl9 cp10 S, vi hand, cv0, cv1, nilC]) (On.at hs111 2 rfl) (by kernel_rfl)) (Jai (Ja (t := 22) (off := 2) (v := .one (sv EN aa2 nn2 pp2 l2)) (On.at hs111 0 rfl) (by kernel_rfl)) (Jai (Jf (H := H110) (s := EN) (b := aa2) (nil := nn2) (capd := pp2) (t := 22) (el := 35) (i := i2) Try.underlying22 (by kernel_rfl) (by kernel_rfl) (by omega) hx108) (JZ (Jr (H := H110) (g := 40) (vals := [.y (.agg [sv NI false nl9 cp10 S, vi hand, cv0, cv1, nilC]), .y (.agg [vi x108.1.1, vi x108.1.2.1])]) (xs0 := [.agg [sv NI false nl9 cp10 S, vi hand, cv0, cv1, nilC], .agg [vi x108.1.1, vi x108.1.2.1]]) (xs1 := [.agg [sv NI false nl9 cp10 S, vi hand, sv EN fb121 fn122 fp123 l0, sv EN fb117 fn118 fp119 l1, nilC], .agg [vi x108.1.1, vi x108.1.2.1]]) (res := [.one (vb true)]) (ats := #[]) (ty := 0) (v := xb true) [.tmp 0, .tmp 1] (by kernel_rfl) (by kernel_rfl) (snap_cons (snap_agg (mapM_cons' (by kernel_rfl) (mapM_cons' (by kernel_rfl) (mapM_cons' hf124 (mapM_cons' hf120 (mapM_cons' (by kernel_rfl) mapM_nil')))))) (snap_cons (by kernel_rfl) (snap_nil))) (rstands_0 false nl9 cp10 fb121 fn122 fp123 fb117 fn118 fp119 false true true S hand l0 l1 ([] : List EN.T) x108.1 (by first | rfl | omega | (simp only [List.length_nil]; omega) | simp <;> omega) (by first | rfl | omega | (simp only [List.length_nil]; omega) | simp <;> omega) (by first | rfl | omega | (simp only [List.length_nil]; omega) | simp <;> omega) (by omega)) (by kernel_rfl)))))) (by kernel_rfl)) (by kernel_rfl) ?_
           refine wTa ?_
           refine rSq [(0, .y (.agg [nilC, vi 0, nilC, nilC, nilC]), H110), (1, .tup [], (sto H110 n2 (.obj [nilC, vi 0, nilC, nilC, nilC])))] [(6, yp n2), (7, xi 1)] (sto H110 n2 (.obj [nilC, vi 0, nilC, nilC, nilC]))
             (cast (Jai (Ja (t := 41) (off := 0) (v := .agg [nilC, vi 0, nilC, nilC, nilC]) (On.at hs111 3 rfl) (by kernel_rfl)) (JZ (Jc (t := 41) (off := 0) (v := .agg [nilC, vi 0, nilC, nilC, nilC]) (On.at hs111 1 rfl) (by kernel_rfl)))) (by kernel_rfl)) (by kernel_rfl) ?_
           refine wG (On.put (.obj [nilC, vi 0, nilC, nilC, nilC]) hs111 1 rfl) ?_
           intro H138 hs139
           refine wE ?_
           refine ⟨Or.inr rfl, [.agg [nilC, vi 0, nilC, nilC, nilC], .one (vi 1)], (cast (res_cons (P := pg) (e := [(6, yp n2), (7, xi 1)]) (H := H138) (res_cell (P := pg) (e := [(6, yp n2), (7, xi 1)]) (H := H138) (a := 6) (t := 41) (id := n2) (off := 0) (n := 5) (cs := [nilC, vi 0, nilC, nilC, nilC]) (cs' := [nilC, vi 0, nilC, nilC, nilC]) (v := .agg [nilC, vi 0, nilC, nilC, nilC]) (by kernel_rfl) (by kernel_rfl) (On.at hs139 1 rfl) (by kernel_rfl) (by kernel_rfl) (by kernel_rfl)) (res_cons (P := pg) (e := [(6, yp n2), (7, xi 1)]) (H := H138) (r := .tmp 7) (y := .one (vi 1)) (by kernel_rfl) res_nil)) (by kernel_rfl)), ?_⟩
           exact .inr (.inr (.inl (⟨c5, by omega, (fun h => absurd (not_in (ok02 h) hx108 : posI x108.1 l0 < 0) (by omega)), (by kernel_rfl)⟩)))
          ·
           by_cases c143 : (0 : Int) ≤ (posI x108.1 l1)
           ·
            refine rSq [(0, .y (.agg [sv NI false nl9 cp10 S, vi hand, cv0, cv1, nilC]), H110), (3, .y (.one (sv EN aa2 nn2 pp2 l2)), H110), (5, .y (.one (.rd ([vi x108.1.1, vi x108.1.2.1, vb x108.2.1] ++ (l2.drop ((i2 : Int).toNat + 1)).flatMap (enc EN)))), H110), (8, xb true, H110)] [(5, yp n1), (6, yp n2), (8, yp n13), (10, yp n17), (11, xb fu1), (12, xi 2), (13, .y (.one (cv2))), (14, xi i2), (77, xb true)] H110
              (cast (Jai (Ja (t := 41) (off := 0) (v := .agg [sv NI false nl9 cp10 S, vi hand, cv0, cv1, nilC]) (On.at hs111 2 rfl) (by kernel_rfl)) (Jai (Ja (t := 22) (off := 2) (v := .one (sv EN aa2 nn2 pp2 l2)) (On.at hs111 0 rfl) (by kernel_rfl)) (Jai (Jf (H := H110) (s := EN) (b := aa2) (nil := nn2) (capd := pp2) (t := 22) (el := 35) (i := i2) Try.underlying22 (by kernel_rfl) (by kernel_rfl) (by omega) hx108) (JZ (Jr (H := H110) (g := 40) (vals := [.y (.agg [sv NI false nl9 cp10 S, vi hand, cv0, cv1, nilC]), .y (.agg [vi x108.1.1, vi x108.1.2.1])]) (xs0 := [.agg [sv NI false nl9 cp10 S, vi hand, cv0, cv1, nilC], .agg [vi x108.1.1, vi x108.1.2.1]]) (xs1 := [.agg [sv NI false nl9 cp10 S, vi hand, sv EN fb121 fn122 fp123 l0, sv EN fb117 fn118 fp119 l1, nilC], .agg [vi x108.1.1, vi x108.1.2.1]]) (res := [.one (vb true)]) (ats := #[]) (ty := 0) (v := xb true) [.tmp 0, .tmp 1] (by kernel_rfl) (by kernel_rfl) (snap_cons (snap_agg (mapM_cons' (by kernel_rfl) (mapM_cons' (by kernel_rfl) (mapM_cons' hf124 (mapM_cons' hf120 (mapM_cons' (by kernel_rfl) mapM_nil')))))) (snap_cons (by kernel_rfl) (snap_nil))) (rstands_1 false nl9 cp10 fb121 fn122 fp123 fb117 fn118 fp119 false true true S hand l0 l1 ([] : List EN.T) x108.1 (by first | rfl | omega | (simp only [List.length_nil]; omega) | simp <;> omega) (by first | rfl | omega | (simp only [List.length_nil]; omega) | simp <;> omega) (by first | rfl | omega | (simp only [List.length_nil]; omega) | simp <;> omega) (by omega) (by omega)) (by kernel_rfl)))))) (by kernel_rfl)) (by kernel_rfl) ?_
            refine wTa ?_
            refine rSq [(0, .y (.agg [nilC, vi 0, nilC, nilC, nilC]), H110), (1, .tup [], (sto H110 n2 (.obj [nilC, vi 0, nilC, nilC, nilC])))] [(6, yp n2), (7, xi 1)] (sto H110 n2 (.obj [nilC, vi 0, nilC, nilC, nilC]))
              (cast (Jai (Ja (t := 41) (off := 0) (v := .agg [nilC, vi 0, nilC, nilC, nilC]) (On.at hs111 3 rfl) (by kernel_rfl)) (JZ (Jc (t := 41) (off := 0) (v := .agg [nilC, vi 0, nilC, nilC, nilC]) (On.at hs111 1 rfl) (by kernel_rfl)))) (by kernel_rfl)) (by kernel_rfl) ?_
            refine wG (On.put (.obj [nilC, vi 0, nilC, nilC, nilC]) hs111 1 rfl) ?_
            intro H147 hs148
            refine wE ?_
            refine ⟨Or.inr rfl, [.agg [nilC, vi 0, nilC, nilC, nilC], .one (vi 1)], (cast (res_cons (P := pg) (e := [(6, yp n2), (7, xi 1)]) (H := H147) (res_cell (P := pg) (e := [(6, yp n2), (7, xi 1)]) (H := H147) (a := 6) (t := 41) (id := n2) (off := 0) (n := 5) (cs := [nilC, vi 0, nilC, nilC, nilC]) (cs' := [nilC, vi 0, nilC, nilC, nilC]) (v := .agg [nilC, vi 0, nilC, nilC, nilC]) (by kernel_rfl) (by kernel_rfl) (On.at hs148 1 rfl) (by kernel_rfl) (by kernel_rfl) (by kernel_rfl)) (res_cons (P := pg) (e := [(6, yp n2), (7, xi 1)]) (H := H147) (r := .tmp 7) (y := .one (vi 1)) (by kernel_rfl) res_nil)) (by kernel_rfl)), ?_⟩
            exact .inr (.inr (.inl (⟨c5, by omega, (fun h => absurd (not_in (ok12 h) hx108 : posI x108.1 l1 < 0) (by omega)), (by kernel_rfl)⟩)))
           ·
            refine rSq [(0, .y (.agg [sv NI false nl9 cp10 S, vi hand, cv0, cv1, nilC]), H110), (3, .y (.one (sv EN aa2 nn2 pp2 l2)), H110), (5, .y (.one (.rd ([vi x108.1.1, vi x108.1.2.1, vb x108.2.1] ++ (l2.drop ((i2 : Int).toNat + 1)).flatMap (enc EN)))), H110), (8, xb false, H110)] [(5, yp n1), (6, yp n2), (8, yp n13), (10, yp n17), (11, xb fu1), (12, xi 2), (13, .y (.one (cv2))), (14, xi i2), (77, xb false)] H110
              (cast (Jai (Ja (t := 41) (off := 0) (v := .agg [sv NI false nl9 cp10 S, vi hand, cv0, cv1, nilC]) (On.at hs111 2 rfl) (by kernel_rfl)) (Jai (Ja (t := 22) (off := 2) (v := .one (sv EN aa2 nn2 pp2 l2)) (On.at hs111 0 rfl) (by kernel_rfl)) (Jai (Jf (H := H110) (s := EN) (b := aa2) (nil := nn2) (capd := pp2) (t := 22) (el := 35) (i := i2) Try.underlying22 (by kernel_rfl) (by kernel_rfl) (by omega) hx108) (JZ (Jr (H := H110) (g := 40) (vals := [.y (.agg [sv NI false nl9 cp10 S, vi hand, cv0, cv1, nilC]), .y (.agg [vi x108.1.1, vi x108.1.2.1])]) (xs0 := [.agg [sv NI false nl9 cp10 S, vi hand, cv0, cv1, nilC], .agg [vi x108.1.1, vi x108.1.2.1]]) (xs1 := [.agg [sv NI false nl9 cp10 S, vi hand, sv EN fb121 fn122 fp123 l0, sv EN fb117 fn118 fp119 l1, nilC], .agg [vi x108.1.1, vi x108.1.2.1]]) (res := [.one (vb false)]) (ats := #[]) (ty := 0) (v := xb false) [.tmp 0, .tmp 1] (by kernel_rfl) (by kernel_rfl) (snap_cons (snap_agg (mapM_cons' (by kernel_rfl) (mapM_cons' (by kernel_rfl) (mapM_cons' hf124 (mapM_cons' hf120 (mapM_cons' (by kernel_rfl) mapM_nil')))))) (snap_cons (by kernel_rfl) (snap_nil))) (rstands_3 false nl9 cp10 fb121 fn122 fp123 fb117 fn118 fp119 false true true S hand l0 l1 ([] : List EN.T) x108.1 (by first | rfl | omega | (simp only [List.length_nil]; omega) | simp <;> omega) (by first | rfl | omega | (simp only [List.length_nil]; omega) | simp <;> omega) (by first | rfl | omega | (simp only [List.length_nil]; omega) | simp <;> omega) (by omega) (by omega) (by omega)) (by kernel_rfl)))))) (by kernel_rfl)) (by kernel_rfl) ?_
            refine wFk ?_
            obtain ⟨cv152, H153, ho154, hs155⟩ := or_append_items (P := pg) (A := an) (s := EN) (t := 22) (u := 22) (el := 35) (by_ := 24) (z := [vi 0, vi 0, vb false]) (ty := 0) (y := .sl false false true [vi x108.1.1, vi x108.1.2.1, vb x108.2.1] 1) (lm := ([x108])) (m := 1) hs111 6 rfl ((slCells_slO (H := H110) (s := EN) (b := false) (nil := false) (capd := true) (l := [x108]) (n := 1) (by first | rfl | omega | simp <;> omega))) (by kernel_rfl) (by kernel_rfl) (by kernel_rfl) (by kernel_rfl) (by kernel_rfl) (by kernel_rfl) (by kernel_rfl) (by first | rfl | omega | simp <;> omega) (by omega) (by omega)
            have hs155l : (((l2.take (i2 : Int).toNat) ++ ([x108])).length : Int) = (((l2.take (i2 : Int).toNat).length : Int) + 1) := by { first | omega | (simp only [List.length_append]; omega) | (simp; done) | (simp; omega) }
            refine rKq [(3, .y (.one (sv EN aa2 nn2 pp2 l2)), H110), (5, .y (.one (.rd ([vi x108.1.1, vi x108.1.2.1, vb x108.2.1] ++ (l2.drop ((i2 : Int).toNat + 1)).flatMap (enc EN)))), H110), (8, .y (.one (cv152)), H153)] [(5, yp n1), (6, yp n2), (8, yp n13), (10, yp n17), (11, xb fu1), (12, xi 2), (13, .y (.one (cv152))), (14, xi i2)] H153
              (cast (Jai (Ja (t := 22) (off := 2) (v := .one (sv EN aa2 nn2 pp2 l2)) (On.at hs111 0 rfl) (by kernel_rfl)) (Jai (Jf (H := H110) (s := EN) (b := aa2) (nil := nn2) (capd := pp2) (t := 22) (el := 35) (i := i2) Try.underlying22 (by kernel_rfl) (by kernel_rfl) (by omega) hx108) (JZ ho154))) (by kernel_rfl)) (by kernel_rfl) ?_
            refine wG hs155 ?_
            intro H156 hs157
            refine wK ?_
            refine wR [(1, xi (i2 + 1), H156)] [(5, yp n1), (6, yp n2), (8, yp n13), (10, yp n17), (11, xb fu1), (12, xi 2), (13, .y (.one (cv152))), (14, xi (i2 + 1))] H156
              (cast (JZ (Jj (H := H156) (t := 3) (u := 3) (a := i2) (b := 1) (c := (i2 + 1)) (by omega))) (by kernel_rfl)) (by kernel_rfl) ?_
            exact ⟨(H156, (i2 + 1), cv152), by kernel_rfl, (⟨(On.pick [0, 1, 2, 3, 4, 5, 6] [] (by kernel_rfl) (On.mono (A' := itemsP EN cv152 (l2.take ((i2 + 1) : Int).toNat)) 6 rfl (fun _ x => by rw [← (show ((l2.take (i2 : Int).toNat) ++ ([x108])) = (l2.take ((i2 + 1) : Int).toNat) from (tk_snoc g1i2 hx108))]; exact x) hs157)), by omega, by omega, by simp only [List.length_take]; omega, nd_load (j := j2) g4i2 g1i2 (by omega) hx108 k3j2 (not_two (by omega) (by omega))⟩), (by show (_ : Nat) < _; simp only []; omega)⟩
        ·
         refine rSq [(3, .y (.one (sv EN aa2 nn2 pp2 l2)), H105), (5, xb false, H105)] [(5, yp n1), (6, yp n2), (8, yp n13), (10, yp n17), (11, xb fu1), (12, xi 2), (13, .y (.one (cv2))), (14, xi i2), (45, xb false)] H105
           (cast (Jai (Ja (t := 22) (off := 2) (v := .one (sv EN aa2 nn2 pp2 l2)) (On.at hs106 0 rfl) (by kernel_rfl)) (JZ (Je (H := H105) (t := 3) (u := 3) (a := i2) (b := (l2.length : Int)) (by omega)))) (by kernel_rfl)) (by kernel_rfl) ?_
         refine wFa ?_
         refine wX ?_
         refine Eq.mpr (if_pos rfl) ?_
         refine Wp.meet 1 (T := HH × Bool) (fun t => match t with | (H158, fu2) => ([(5, yp n1), (6, yp n2), (8, yp n13), (10, yp n17), (11, xb fu2), (12, xi 2), (13, .y (.one (cv2)))] : Env)) (fun t => match t with | (H158, fu2) => (H158 : HH)) (fun t => match t with | (H158, fu2) => (On [pts n1 (.obj [sv EN aa0 nn0 pp0 l0, sv EN aa1 nn1 pp1 l1, sv EN aa2 nn2 pp2 l2]), pts n2 (.obj [nilC, vi 0, nilC, nilC, nilC]), pts n13 (.obj [sv NI false nl9 cp10 S, vi hand, cv0, cv1, nilC]), pts n17 (.obj [nilC, vi 0, nilC, nilC, nilC]), itemsP EN cv0 l0, itemsP EN cv1 l1, itemsP EN cv2 l2] H158 ∧ (fu2 = true → (64 < (l0.length : Int) ∨ 64 < (l1.length : Int) ∨ 64 < (l2.length : Int))) ∧ (fu2 = false → ((l0.length : Int) ≤ 64 ∧ (l1.length : Int) ≤ 64 ∧ (l2.length : Int) ≤ 64)) : Prop)) ?_ ?_
         ·
          rintro ⟨H158, fu2⟩ ⟨hs159, hfa2, hfb2⟩
          show Wp _ _ _ _ [(5, yp n1), (6, yp n2), (8, yp n13), (10, yp n17), (11, xb fu2), (12, xi 2), (13, .y (.one (cv2)))] H158 _
          have hv161 : C.live cv2 = true := items_live hs159 6 rfl
          refine rKq [(4, .tup [], (sto H158 n13 (.obj [sv NI false nl9 cp10 S, vi hand, cv0, cv1, cv2])))] [(5, yp n1), (6, yp n2), (8, yp n13), (10, yp n17), (11, xb fu2), (12, xi 2)] (sto H158 n13 (.obj [sv NI false nl9 cp10 S, vi hand, cv0, cv1, cv2]))
            (cast (JZ (Jp (H := H158) (t := 22) (ty := 0) (id := n13) (off := 4) (cs := [sv NI false nl9 cp10 S, vi hand, cv0, cv1, nilC]) (cs' := [sv NI false nl9 cp10 S, vi hand, cv0, cv1, cv2]) (v := .one (cv2)) (On.at hs159 2 rfl) (by kernel_rfl) (live_cons hv161 live_nil) (by kernel_rfl) (by kernel_rfl))) (by kernel_rfl)) (by kernel_rfl) ?_
          refine wG (On.put (.obj [sv NI false nl9 cp10 S, vi hand, cv0, cv1, cv2]) hs159 2 rfl) ?_
          intro H162 hs163
          refine wK ?_
          refine wR [] [(5, yp n1), (6, yp n2), (8, yp n13), (10, yp n17), (11, xb fu2), (12, xi 3)] H162
            (cast trivial (by kernel_rfl)) (by kernel_rfl) ?_
          refine ⟨_, _, rfl, ?_⟩
          refine WpL.step ?_
          refine wS ?_
          refine rS0 [(5, yp n1), (6, yp n2), (8, yp n13), (10, yp n17), (11, xb fu2), (12, xi 3), (37, xb false)] (by kernel_rfl) ?_
          refine wFa ?_
          refine wX ?_
          refine Eq.mpr (if_pos rfl) ?_
          refine wS ?_
          refine rS0 [(6, yp n2), (8, yp n13), (10, yp n17), (98, xb fu2)] (by kernel_rfl) ?_
          rcases Bool.eq_false_or_eq_true fu2 with rfl | rfl
          ·
           refine wTa ?_
           refine rSq [(0, .y (.agg [nilC, vi 0, nilC, nilC, nilC]), H162), (1, .tup [], (sto H162 n2 (.obj [nilC, vi 0, nilC, nilC, nilC])))] [(6, yp n2), (7, xi 2)] (sto H162 n2 (.obj [nilC, vi 0, nilC, nilC, nilC]))
             (cast (Jai (Ja (t := 41) (off := 0) (v := .agg [nilC, vi 0, nilC, nilC, nilC]) (On.at hs163 3 rfl) (by kernel_rfl)) (JZ (Jc (t := 41) (off := 0) (v := .agg [nilC, vi 0, nilC, nilC, nilC]) (On.at hs163 1 rfl) (by kernel_rfl)))) (by kernel_rfl)) (by kernel_rfl) ?_
           refine wG (On.put (.obj [nilC, vi 0, nilC, nilC, nilC]) hs163 1 rfl) ?_
           intro H164 hs165
           refine wE ?_
           refine ⟨Or.inr rfl, [.agg [nilC, vi 0, nilC, nilC, nilC], .one (vi 2)], (cast (res_cons (P := pg) (e := [(6, yp n2), (7, xi 2)]) (H := H164) (res_cell (P := pg) (e := [(6, yp n2), (7, xi 2)]) (H := H164) (a := 6) (t := 41) (id := n2) (off := 0) (n := 5) (cs := [nilC, vi 0, nilC, nilC, nilC]) (cs' := [nilC, vi 0, nilC, nilC, nilC]) (v := .agg [nilC, vi 0, nilC, nilC, nilC]) (by kernel_rfl) (by kernel_rfl) (On.at hs165 1 rfl) (by kernel_rfl) (by kernel_rfl) (by kernel_rfl)) (res_cons (P := pg) (e := [(6, yp n2), (7, xi 2)]) (H := H164) (r := .tmp 7) (y := .one (vi 2)) (by kernel_rfl) res_nil)) (by kernel_rfl)), ?_⟩
           exact .inr (.inr (.inr (.inl (⟨c5, by omega, (load_good g4i2 (by rw [take_all (show (l2.length : Int) ≤ i2 by omega)])), hfa2 rfl, (by kernel_rfl)⟩))))
          ·
           have hfb2z := hfb2 rfl
           refine wFk ?_
           refine rSq [(0, .y (.agg [sv NI false nl9 cp10 S, vi hand, cv0, cv1, cv2]), H162), (1, .tup [], (sto H162 n2 (.obj [sv NI false nl9 cp10 S, vi hand, cv0, cv1, cv2])))] [(6, yp n2), (7, xi 0)] (sto H162 n2 (.obj [sv NI false nl9 cp10 S, vi hand, cv0, cv1, cv2]))
             (cast (Jai (Ja (t := 41) (off := 0) (v := .agg [sv NI false nl9 cp10 S, vi hand, cv0, cv1, cv2]) (On.at hs163 2 rfl) (by kernel_rfl)) (JZ (Jp (H := H162) (t := 41) (ty := 0) (id := n2) (off := 0) (cs := [nilC, vi 0, nilC, nilC, nilC]) (cs' := [sv NI false nl9 cp10 S, vi hand, cv0, cv1, cv2]) (v := .agg [sv NI false nl9 cp10 S, vi hand, cv0, cv1, cv2]) (On.at hs163 1 rfl) (by kernel_rfl) (live_cons rfl (live_cons rfl (live_cons hv55 (live_cons hv100 (live_cons hv161 live_nil))))) (by kernel_rfl) (by kernel_rfl)))) (by kernel_rfl)) (by kernel_rfl) ?_
           refine wG (On.put (.obj [sv NI false nl9 cp10 S, vi hand, cv0, cv1, cv2]) hs163 1 rfl) ?_
           intro H166 hs167
           refine wE ?_
           refine ⟨Or.inr rfl, [.agg [sv NI false nl9 cp10 S, vi hand, cv0, cv1, cv2], .one (vi 0)], (cast (res_cons (P := pg) (e := [(6, yp n2), (7, xi 0)]) (H := H166) (res_cell (P := pg) (e := [(6, yp n2), (7, xi 0)]) (H := H166) (a := 6) (t := 41) (id := n2) (off := 0) (n := 5) (cs := [sv NI false nl9 cp10 S, vi hand, cv0, cv1, cv2]) (cs' := [sv NI false nl9 cp10 S, vi hand, cv0, cv1, cv2]) (v := .agg [sv NI false nl9 cp10 S, vi hand, cv0, cv1, cv2]) (by kernel_rfl) (by kernel_rfl) (On.at hs167 1 rfl) (by kernel_rfl) (by kernel_rfl) (by kernel_rfl)) (res_cons (P := pg) (e := [(6, yp n2), (7, xi 0)]) (H := H166) (r := .tmp 7) (y := .one (vi 0)) (by kernel_rfl) res_nil)) (by kernel_rfl)), ?_⟩
           obtain ⟨fn168, fp169, hf170⟩ := items_back hs167 6 rfl
           obtain ⟨fn171, fp172, hf173⟩ := items_back hs167 5 rfl
           obtain ⟨fn174, fp175, hf176⟩ := items_back hs167 4 rfl
           exact .inr (.inr (.inr (.inr (⟨c5, by omega, (load_good g4i2 (by rw [take_all (show (l2.length : Int) ≤ i2 by omega)])), by omega, by omega, by omega, nl9, cp10, fn174, fp175, fn171, fp172, fn168, fp169, (back_cons (back_agg (mapM_cons' (by kernel_rfl) (mapM_cons' (by kernel_rfl) (mapM_cons' hf176 (mapM_cons' hf173 (mapM_cons' hf170 mapM_nil')))))) (back_cons (by kernel_rfl) rfl))⟩))))
         ·
          intro hm160
          rcases Bool.eq_false_or_eq_true fu1 with rfl | rfl
          ·
           refine rS0 [(5, yp n1), (6, yp n2), (8, yp n13), (10, yp n17), (11, xb true), (12, xi 2), (13, .y (.one (cv2)))] (by kernel_rfl) ?_
           exact hm160 (H105, true) ⟨(On.pick [0, 1, 2, 3, 4, 5, 6] [] (by kernel_rfl) (On.mono (A' := itemsP EN cv2 l2) 6 rfl (fun _ x => by rw [take_all (show (l2.length : Int) ≤ i2 by omega)] at x; exact x) hs106)), (by intro h; first | omega | (have := hfa1 rfl; omega) | (cases h; done)), (by intro h; first | omega | (cases h; done))⟩
          ·
           have hfb1z := hfb1 rfl
           by_cases c177 : (64 : Int) < (l2.length : Int)
           ·
            refine rSq [(3, xi (l2.length : Int), H105), (4, xb true, H105)] [(5, yp n1), (6, yp n2), (8, yp n13), (10, yp n17), (11, xb true), (12, xi 2), (13, .y (.one (cv2)))] H105
              (cast (Jai (Jz (s := EN) (c := cv2) (l := l2) (t := 22) (ty := 0) (e := (l2.length : Int)) (On.mono (A' := itemsP EN cv2 l2) 6 rfl (fun _ x => by rw [take_all (show (l2.length : Int) ≤ i2 by omega)] at x; exact x) hs106) 6 rfl (by kernel_rfl) rfl) (JZ (Jd (H := H105) (t := 3) (u := 3) (a := (l2.length : Int)) (b := 64) (by omega)))) (by kernel_rfl)) (by kernel_rfl) ?_
            exact hm160 (H105, true) ⟨(On.pick [0, 1, 2, 3, 4, 5, 6] [] (by kernel_rfl) (On.mono (A' := itemsP EN cv2 l2) 6 rfl (fun _ x => by rw [take_all (show (l2.length : Int) ≤ i2 by omega)] at x; exact x) hs106)), (by intro h; first | omega | (have := hfa1 rfl; omega) | (cases h; done)), (by intro h; first | omega | (cases h; done))⟩
           ·
            refine rSq [(3, xi (l2.length : Int), H105), (4, xb false, H105)] [(5, yp n1), (6, yp n2), (8, yp n13), (10, yp n17), (11, xb false), (12, xi 2), (13, .y (.one (cv2)))] H105
              (cast (Jai (Jz (s := EN) (c := cv2) (l := l2) (t := 22) (ty := 0) (e := (l2.length : Int)) (On.mono (A' := itemsP EN cv2 l2) 6 rfl (fun _ x => by rw [take_all (show (l2.length : Int) ≤ i2 by omega)] at x; exact x) hs106) 6 rfl (by kernel_rfl) rfl) (JZ (Jk (H := H105) (t := 3) (u := 3) (a := (l2.length : Int)) (b := 64) (by omega)))) (by kernel_rfl)) (by kernel_rfl) ?_
            exact hm160 (H105, false) ⟨(On.pick [0, 1, 2, 3, 4, 5, 6] [] (by kernel_rfl) (On.mono (A' := itemsP EN cv2 l2) 6 rfl (fun _ x => by rw [take_all (show (l2.length : Int) ≤ i2 by omega)] at x; exact x) hs106)), (by intro h; first | omega | (have := hfa1 rfl; omega) | (cases h; done)), (by intro h; first | omega | (cases h; done))⟩
       ·
        intro hm99
        rcases Bool.eq_false_or_eq_true fu0 with rfl | rfl
        ·
         refine rS0 [(5, yp n1), (6, yp n2), (8, yp n13), (10, yp n17), (11, xb true), (12, xi 1), (13, .y (.one (cv1)))] (by kernel_rfl) ?_
         exact hm99 (H60, true) ⟨(On.pick [0, 1, 2, 3, 4, 5] [] (by kernel_rfl) (On.mono (A' := itemsP EN cv1 l1) 5 rfl (fun _ x => by rw [take_all (show (l1.length : Int) ≤ i1 by omega)] at x; exact x) hs61)), (by intro h; first | omega | (have := hfa0 rfl; omega) | (cases h; done)), (by intro h; first | omega | (cases h; done))⟩
        ·
         have hfb0z := hfb0 rfl
         by_cases c178 : (64 : Int) < (l1.length : Int)
         ·
          refine rSq [(3, xi (l1.length : Int), H60), (4, xb true, H60)] [(5, yp n1), (6, yp n2), (8, yp n13), (10, yp n17), (11, xb true), (12, xi 1), (13, .y (.one (cv1)))] H60
            (cast (Jai (Jz (s := EN) (c := cv1) (l := l1) (t := 22) (ty := 0) (e := (l1.length : Int)) (On.mono (A' := itemsP EN cv1 l1) 5 rfl (fun _ x => by rw [take_all (show (l1.length : Int) ≤ i1 by omega)] at x; exact x) hs61) 5 rfl (by kernel_rfl) rfl) (JZ (Jd (H := H60) (t := 3) (u := 3) (a := (l1.length : Int)) (b := 64) (by omega)))) (by kernel_rfl)) (by kernel_rfl) ?_
          exact hm99 (H60, true) ⟨(On.pick [0, 1, 2, 3, 4, 5] [] (by kernel_rfl) (On.mono (A' := itemsP EN cv1 l1) 5 rfl (fun _ x => by rw [take_all (show (l1.length : Int) ≤ i1 by omega)] at x; exact x) hs61)), (by intro h; first | omega | (have := hfa0 rfl; omega) | (cases h; done)), (by intro h; first | omega | (cases h; done))⟩
         ·
          refine rSq [(3, xi (l1.length : Int), H60), (4, xb false, H60)] [(5, yp n1), (6, yp n2), (8, yp n13), (10, yp n17), (11, xb false), (12, xi 1), (13, .y (.one (cv1)))] H60
            (cast (Jai (Jz (s := EN) (c := cv1) (l := l1) (t := 22) (ty := 0) (e := (l1.length : Int)) (On.mono (A' := itemsP EN cv1 l1) 5 rfl (fun _ x => by rw [take_all (show (l1.length : Int) ≤ i1 by omega)] at x; exact x) hs61) 5 rfl (by kernel_rfl) rfl) (JZ (Jk (H := H60) (t := 3) (u := 3) (a := (l1.length : Int)) (b := 64) (by omega)))) (by kernel_rfl)) (by kernel_rfl) ?_
          exact hm99 (H60, false) ⟨(On.pick [0, 1, 2, 3, 4, 5] [] (by kernel_rfl) (On.mono (A' := itemsP EN cv1 l1) 5 rfl (fun _ x => by rw [take_all (show (l1.length : Int) ≤ i1 by omega)] at x; exact x) hs61)), (by intro h; first | omega | (have := hfa0 rfl; omega) | (cases h; done)), (by intro h; first | omega | (cases h; done))⟩
     ·
      intro hm54
      by_cases c179 : (64 : Int) < (l0.length : Int)
      ·
       refine rSq [(3, xi (l0.length : Int), H30), (4, xb true, H30)] [(5, yp n1), (6, yp n2), (8, yp n13), (10, yp n17), (11, xb true), (12, xi 0), (13, .y (.one (cv0)))] H30
         (cast (Jai (Jz (s := EN) (c := cv0) (l := l0) (t := 22) (ty := 0) (e := (l0.length : Int)) (On.mono (A' := itemsP EN cv0 l0) 4 rfl (fun _ x => by rw [take_all (show (l0.length : Int) ≤ i0 by omega)] at x; exact x) hs31) 4 rfl (by kernel_rfl) rfl) (JZ (Jd (H := H30) (t := 3) (u := 3) (a := (l0.length : Int)) (b := 64) (by omega)))) (by kernel_rfl)) (by kernel_rfl) ?_
       exact hm54 (H30, true) ⟨(On.pick [0, 1, 2, 3, 4] [] (by kernel_rfl) (On.mono (A' := itemsP EN cv0 l0) 4 rfl (fun _ x => by rw [take_all (show (l0.length : Int) ≤ i0 by omega)] at x; exact x) hs31)), (by intro h; first | omega | (cases h; done)), (by intro h; first | omega | (cases h; done))⟩
      ·
       refine rSq [(3, xi (l0.length : Int), H30), (4, xb false, H30)] [(5, yp n1), (6, yp n2), (8, yp n13), (10, yp n17), (11, xb false), (12, xi 0), (13, .y (.one (cv0)))] H30
         (cast (Jai (Jz (s := EN) (c := cv0) (l := l0) (t := 22) (ty := 0) (e := (l0.length : Int)) (On.mono (A' := itemsP EN cv0 l0) 4 rfl (fun _ x => by rw [take_all (show (l0.length : Int) ≤ i0 by omega)] at x; exact x) hs31) 4 rfl (by kernel_rfl) rfl) (JZ (Jk (H := H30) (t := 3) (u := 3) (a := (l0.length : Int)) (b := 64) (by omega)))) (by kernel_rfl)) (by kernel_rfl) ?_
       exact hm54 (H30, false) ⟨(On.pick [0, 1, 2, 3, 4] [] (by kernel_rfl) (On.mono (A' := itemsP EN cv0 l0) 4 rfl (fun _ x => by rw [take_all (show (l0.length : Int) ≤ i0 by omega)] at x; exact x) hs31)), (by intro h; first | omega | (cases h; done)), (by intro h; first | omega | (cases h; done))⟩
 ·
  obtain ⟨n180, hn180⟩ : ∃ n, n = List.length (H3 : HH) := ⟨_, rfl⟩
  refine rSq [(1, .tup [.agg [nilC, vi 0, nilC, nilC, nilC], .one (vi 20)], H3), (5, yp n180, (H3 ++ [.obj [nilC, vi 0, nilC, nilC, nilC]])), (6, .tup [], (sto (H3 ++ [.obj [nilC, vi 0, nilC, nilC, nilC]]) n180 (.obj [nilC, vi 0, nilC, nilC, nilC])))] [(0, .y (.one (sv NI b nil cp0 S))), (1, xi hand), (5, yp n1), (6, yp n2), (8, yp n180), (9, xi 20)] (sto (H3 ++ [.obj [nilC, vi 0, nilC, nilC, nilC]]) n180 (.obj [nilC, vi 0, nilC, nilC, nilC]))
    (cast (Jai (Jo (H := H3) (g := 39) (x := .one (sv NI b nil cp0 S)) (res := [.agg [nilC, vi 0, nilC, nilC, nilC], .one (vi 20)]) (rnew_bad b nil cp0 S (by first | rfl | omega | simp <;> omega) c5) (by kernel_rfl) (by kernel_rfl)) (Jai (Jg (H := H3) (t := 41) (ty := 0) (n := n180) (cs := [nilC, vi 0, nilC, nilC, nilC]) hn180 (by kernel_rfl)) (JZ (Jc (t := 41) (off := 0) (v := .agg [nilC, vi 0, nilC, nilC, nilC]) (On.at (On.new' hn180 (.obj [nilC, vi 0, nilC, nilC, nilC]) hs4) 2 rfl) (by kernel_rfl))))) (by kernel_rfl)) (by kernel_rfl) ?_
  refine wG (On.put (.obj [nilC, vi 0, nilC, nilC, nilC]) (On.new' hn180 (.obj [nilC, vi 0, nilC, nilC, nilC]) hs4) 2 rfl) ?_
  intro H181 hs182
  refine wS ?_
  refine rS0 [(0, .y (.one (sv NI b nil cp0 S))), (1, xi hand), (5, yp n1), (6, yp n2), (8, yp n180), (9, xi 20), (22, xb true)] (by kernel_rfl) ?_
  refine wTa ?_
  refine rSq [(0, .y (.agg [nilC, vi 0, nilC, nilC, nilC]), H181), (2, .tup [], (sto H181 n2 (.obj [nilC, vi 0, nilC, nilC, nilC])))] [(6, yp n2), (7, xi 20)] (sto H181 n2 (.obj [nilC, vi 0, nilC, nilC, nilC]))
    (cast (Jai (Ja (t := 41) (off := 0) (v := .agg [nilC, vi 0, nilC, nilC, nilC]) (On.at hs182 2 rfl) (by kernel_rfl)) (JZ (Jc (t := 41) (off := 0) (v := .agg [nilC, vi 0, nilC, nilC, nilC]) (On.at hs182 1 rfl) (by kernel_rfl)))) (by kernel_rfl)) (by kernel_rfl) ?_
  refine wG (On.put (.obj [nilC, vi 0, nilC, nilC, nilC]) hs182 1 rfl) ?_
  intro H183 hs184
  refine wE ?_
  refine ⟨Or.inr rfl, [.agg [nilC, vi 0, nilC, nilC, nilC], .one (vi 20)], (cast (res_cons (P := pg) (e := [(6, yp n2), (7, xi 20)]) (H := H183) (res_cell (P := pg) (e := [(6, yp n2), (7, xi 20)]) (H := H183) (a := 6) (t := 41) (id := n2) (off := 0) (n := 5) (cs := [nilC, vi 0, nilC, nilC, nilC]) (cs' := [nilC, vi 0, nilC, nilC, nilC]) (v := .agg [nilC, vi 0, nilC, nilC, nilC]) (by kernel_rfl) (by kernel_rfl) (On.at hs184 1 rfl) (by kernel_rfl) (by kernel_rfl) (by kernel_rfl)) (res_cons (P := pg) (e := [(6, yp n2), (7, xi 20)]) (H := H183) (r := .tmp 7) (y := .one (vi 20)) (by kernel_rfl) res_nil)) (by kernel_rfl)), ?_⟩
  exact .inl (⟨c5, (by kernel_rfl)⟩)
end Go.Proofs.Ytoidoeappihplaa
