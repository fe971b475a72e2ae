/- Lemmas. -/
import Derived.Test.YtjdnhbnpdbpgbaaR18YB
namespace Go.Proofs.Ytjdnhbnpdbpgbaa
open Go.Lg
set_option linter.unusedVariables false
set_option maxRecDepth 100000
set_option maxHeartbeats 8000000
set_option linter.unusedSimpArgs false
theorem nd_ne {m : List EN.T} {i j : Int} {x y : EN.T} (h : (pids m).Nodup) (h0 : 0 ≤ j) (h1 : j < i) (hx : m[i.toNat]? = some x) (hy : m[j.toNat]? = some y) : eqb PN y.1 x.1 = false := by
  apply eqb_ne rfl
  intro e
  obtain ⟨hi, rfl⟩ := List.getElem?_eq_some_iff.1 hx
  obtain ⟨hj, rfl⟩ := List.getElem?_eq_some_iff.1 hy
  have := List.pairwise_iff_getElem.1 h j.toNat i.toNat (by simpa using hj) (by simpa using hi) (by omega)
  simp only [List.getElem_map] at this
  exact this e
theorem nd_step {m : List EN.T} {i j : Int} {x : EN.T} (h : (pids (m.take i.toNat)).Nodup) (h0 : 0 ≤ i) (hj : j = i) (hx : m[i.toNat]? = some x) (hn : ∀ y ∈ m.take j.toNat, eqb PN y.1 x.1 = false) : (pids (m.take (i + 1).toNat)).Nodup := by
  subst hj
  rw [show (j + 1).toNat = j.toNat + 1 by omega, List.take_add_one, hx]
  show (List.map _ (_ ++ [x])).Nodup
  rw [List.map_append]
  refine nd_snoc h ?_
  rw [Bool.eq_false_iff]
  intro hm
  rw [memB_iff rfl] at hm
  obtain ⟨y, hy, e⟩ := List.mem_map.1 hm
  have := hn y hy
  rw [e, eqb_refl rfl] at this
  cases this
theorem out_step {m l : List EN.T} {i : Int} {x : EN.T} (h : ∀ p ∈ pids (m.take i.toNat), p ∉ pids l) (h0 : 0 ≤ i) (hx : m[i.toNat]? = some x) (hp : posI x.1 l < 0) : ∀ p ∈ pids (m.take (i + 1).toNat), p ∉ pids l := by
  rw [show (i + 1).toNat = i.toNat + 1 by omega, List.take_add_one, hx]
  show ∀ p ∈ List.map _ (_ ++ [x]), _
  rw [List.map_append]
  exact out_snoc h hp
theorem take_all {α : Type} {m : List α} {i : Int} (h : (m.length : Int) ≤ i) : m.take i.toNat = m := List.take_of_length_le (by omega)
theorem pin_snoc {l q : List EN.T} {i : Int} {x : EN.T} (h0 : 0 ≤ i) (hx : q[i.toNat]? = some x) : (l ++ pin (q.take i.toNat)) ++ [(x.1, (true, ()))] = l ++ pin (q.take (i + 1).toNat) := by
  rw [List.append_assoc, pin_step h0 hx]
theorem rjoin_low (rn rc u0 v0 u1 v1 u2 v2 : Bool) (S : List Int) (hand : Int) (l0 l1 l2 : List EN.T) (k : Int) (b nil cc : Bool) (m : List EN.T) (b0 : (l0.length : Int) ≤ 64) (b1 : (l1.length : Int) ≤ 64) (b2 : (l2.length : Int) ≤ 64) (hm : (m.length : Int) ≤ 70368744177664) (h0 : k < 0)  : PureC pg an 64 [.agg (wC rn rc u0 v0 u1 v1 u2 v2 S hand l0 l1 l2), .one (vi k), .one (sv EN b nil cc m)] [.agg (wC rn rc u0 v0 u1 v1 u2 v2 S hand l0 l1 l2), .one (vi 1)] := by
 refine rOF Try.func64 rfl ?_
 obtain ⟨n1, hn1⟩ := lX []
 obtain ⟨n2, hn2⟩ := lX ([] ++ [.obj (wC rn rc u0 v0 u1 v1 u2 v2 S hand l0 l1 l2)])
 refine rGz [(1, xi k), (2, .y (.one (sv EN b nil cc m))), (3, yp n1), (6, yp n2)] (On.new' hn2 (.obj [nilC, vi 0, nilC, nilC, nilC]) (On.new' hn1 (.obj (wC rn rc u0 v0 u1 v1 u2 v2 S hand l0 l1 l2)) (On.nil []))) (zA 0 (qB 31 (wC rn rc u0 v0 u1 v1 u2 v2 S hand l0 l1 l2) hn1) (zL 1 (qO 31 [nilC, vi 0, nilC, nilC, nilC] hn2))) fun H3 hs4 => ?_
 refine wS ?_
 refine rSz [(1, xi k), (2, .y (.one (sv EN b nil cc m))), (3, yp n1), (6, yp n2), (14, xb true)] H3 (zL 1 (qP1 H3 (rclass_low k (by omega)))) ?_
 refine wTa ?_
 refine rGz [(6, yp n2), (7, xi 1)] (On.put (.obj (wC rn rc u0 v0 u1 v1 u2 v2 S hand l0 l1 l2)) hs4 1 rfl) (zA 0 (qA 31 (On.at hs4 0 rfl)) (zL 1 (qS 31 0 (.agg (wC rn rc u0 v0 u1 v1 u2 v2 S hand l0 l1 l2)) (On.at hs4 1 rfl)))) fun H5 hs6 => ?_
 refine wE ?_
 refine ⟨Or.inr rfl, [.agg (wC rn rc u0 v0 u1 v1 u2 v2 S hand l0 l1 l2), .one (vi 1)], (rC (On.at hs6 1 rfl)), ?_⟩
 exact (by kernel_rfl)
theorem rjoin_high (rn rc u0 v0 u1 v1 u2 v2 : Bool) (S : List Int) (hand : Int) (l0 l1 l2 : List EN.T) (k : Int) (b nil cc : Bool) (m : List EN.T) (b0 : (l0.length : Int) ≤ 64) (b1 : (l1.length : Int) ≤ 64) (b2 : (l2.length : Int) ≤ 64) (hm : (m.length : Int) ≤ 70368744177664) (h0 : 3 ≤ k)  : PureC pg an 64 [.agg (wC rn rc u0 v0 u1 v1 u2 v2 S hand l0 l1 l2), .one (vi k), .one (sv EN b nil cc m)] [.agg (wC rn rc u0 v0 u1 v1 u2 v2 S hand l0 l1 l2), .one (vi 1)] := by
 refine rOF Try.func64 rfl ?_
 obtain ⟨n1, hn1⟩ := lX []
 obtain ⟨n2, hn2⟩ := lX ([] ++ [.obj (wC rn rc u0 v0 u1 v1 u2 v2 S hand l0 l1 l2)])
 refine rGz [(1, xi k), (2, .y (.one (sv EN b nil cc m))), (3, yp n1), (6, yp n2)] (On.new' hn2 (.obj [nilC, vi 0, nilC, nilC, nilC]) (On.new' hn1 (.obj (wC rn rc u0 v0 u1 v1 u2 v2 S hand l0 l1 l2)) (On.nil []))) (zA 0 (qB 31 (wC rn rc u0 v0 u1 v1 u2 v2 S hand l0 l1 l2) hn1) (zL 1 (qO 31 [nilC, vi 0, nilC, nilC, nilC] hn2))) fun H3 hs4 => ?_
 refine wS ?_
 refine rSz [(1, xi k), (2, .y (.one (sv EN b nil cc m))), (3, yp n1), (6, yp n2), (14, xb true)] H3 (zL 1 (qP1 H3 (rclass_high k (by omega)))) ?_
 refine wTa ?_
 refine rGz [(6, yp n2), (7, xi 1)] (On.put (.obj (wC rn rc u0 v0 u1 v1 u2 v2 S hand l0 l1 l2)) hs4 1 rfl) (zA 0 (qA 31 (On.at hs4 0 rfl)) (zL 1 (qS 31 0 (.agg (wC rn rc u0 v0 u1 v1 u2 v2 S hand l0 l1 l2)) (On.at hs4 1 rfl)))) fun H5 hs6 => ?_
 refine wE ?_
 refine ⟨Or.inr rfl, [.agg (wC rn rc u0 v0 u1 v1 u2 v2 S hand l0 l1 l2), .one (vi 1)], (rC (On.at hs6 1 rfl)), ?_⟩
 exact (by kernel_rfl)
theorem rjoin (rn rc u0 v0 u1 v1 u2 v2 : Bool) (S : List Int) (hand : Int) (l0 l1 l2 : List EN.T) (kk : Int) (b nil cc : Bool) (m : List EN.T) (b0 : (l0.length : Int) ≤ 64) (b1 : (l1.length : Int) ≤ 64) (b2 : (l2.length : Int) ≤ 64) (hm : (m.length : Int) ≤ 70368744177664) (hk0 : 0 ≤ kk) (hk1 : kk < 3)  : ((JoinBad m l0 l1 l2) ∧ PureC pg an 64 [.agg (wC rn rc u0 v0 u1 v1 u2 v2 S hand l0 l1 l2), .one (vi kk), .one (sv EN b nil cc m)] [.agg (wC rn rc u0 v0 u1 v1 u2 v2 S hand l0 l1 l2), .one (vi 1)]) ∨ ((JoinOk m l0 l1 l2) ∧ (kk = 0) ∧ (64 < (l0.length : Int) + m.length) ∧ PureC pg an 64 [.agg (wC rn rc u0 v0 u1 v1 u2 v2 S hand l0 l1 l2), .one (vi kk), .one (sv EN b nil cc m)] [.agg (wC rn rc u0 v0 u1 v1 u2 v2 S hand l0 l1 l2), .one (vi 2)]) ∨ ((JoinOk m l0 l1 l2) ∧ (kk = 0) ∧ ((l0.length : Int) + m.length ≤ 64) ∧ ∃ nl : Bool, ∃ cp : Bool, PureC pg an 64 [.agg (wC rn rc u0 v0 u1 v1 u2 v2 S hand l0 l1 l2), .one (vi kk), .one (sv EN b nil cc m)] [.agg (wC rn rc nl cp u1 v1 u2 v2 S hand (l0 ++ pin m) l1 l2), .one (vi 0)]) ∨ ((JoinOk m l0 l1 l2) ∧ (kk = 1) ∧ (64 < (l1.length : Int) + m.length) ∧ PureC pg an 64 [.agg (wC rn rc u0 v0 u1 v1 u2 v2 S hand l0 l1 l2), .one (vi kk), .one (sv EN b nil cc m)] [.agg (wC rn rc u0 v0 u1 v1 u2 v2 S hand l0 l1 l2), .one (vi 2)]) ∨ ((JoinOk m l0 l1 l2) ∧ (kk = 1) ∧ ((l1.length : Int) + m.length ≤ 64) ∧ ∃ nl : Bool, ∃ cp : Bool, PureC pg an 64 [.agg (wC rn rc u0 v0 u1 v1 u2 v2 S hand l0 l1 l2), .one (vi kk), .one (sv EN b nil cc m)] [.agg (wC rn rc u0 v0 nl cp u2 v2 S hand l0 (l1 ++ pin m) l2), .one (vi 0)]) ∨ ((JoinOk m l0 l1 l2) ∧ (kk = 2) ∧ (64 < (l2.length : Int) + m.length) ∧ PureC pg an 64 [.agg (wC rn rc u0 v0 u1 v1 u2 v2 S hand l0 l1 l2), .one (vi kk), .one (sv EN b nil cc m)] [.agg (wC rn rc u0 v0 u1 v1 u2 v2 S hand l0 l1 l2), .one (vi 2)]) ∨ ((JoinOk m l0 l1 l2) ∧ (kk = 2) ∧ ((l2.length : Int) + m.length ≤ 64) ∧ ∃ nl : Bool, ∃ cp : Bool, PureC pg an 64 [.agg (wC rn rc u0 v0 u1 v1 u2 v2 S hand l0 l1 l2), .one (vi kk), .one (sv EN b nil cc m)] [.agg (wC rn rc u0 v0 u1 v1 nl cp S hand l0 l1 (l2 ++ pin m)), .one (vi 0)]) := by
 suffices h : ∃ rs H', Runs pg an 64 [.agg (wC rn rc u0 v0 u1 v1 u2 v2 S hand l0 l1 l2), .one (vi kk), .one (sv EN b nil cc m)] [] rs H' ∧ (((JoinBad m l0 l1 l2) ∧ rs.mapM (backY H') = some [.agg (wC rn rc u0 v0 u1 v1 u2 v2 S hand l0 l1 l2), .one (vi 1)]) ∨ ((JoinOk m l0 l1 l2) ∧ (kk = 0) ∧ (64 < (l0.length : Int) + m.length) ∧ rs.mapM (backY H') = some [.agg (wC rn rc u0 v0 u1 v1 u2 v2 S hand l0 l1 l2), .one (vi 2)]) ∨ ((JoinOk m l0 l1 l2) ∧ (kk = 0) ∧ ((l0.length : Int) + m.length ≤ 64) ∧ ∃ nl : Bool, ∃ cp : Bool, rs.mapM (backY H') = some [.agg (wC rn rc nl cp u1 v1 u2 v2 S hand (l0 ++ pin m) l1 l2), .one (vi 0)]) ∨ ((JoinOk m l0 l1 l2) ∧ (kk = 1) ∧ (64 < (l1.length : Int) + m.length) ∧ rs.mapM (backY H') = some [.agg (wC rn rc u0 v0 u1 v1 u2 v2 S hand l0 l1 l2), .one (vi 2)]) ∨ ((JoinOk m l0 l1 l2) ∧ (kk = 1) ∧ ((l1.length : Int) + m.length ≤ 64) ∧ ∃ nl : Bool, ∃ cp : Bool, rs.mapM (backY H') = some [.agg (wC rn rc u0 v0 nl cp u2 v2 S hand l0 (l1 ++ pin m) l2), .one (vi 0)]) ∨ ((JoinOk m l0 l1 l2) ∧ (kk = 2) ∧ (64 < (l2.length : Int) + m.length) ∧ rs.mapM (backY H') = some [.agg (wC rn rc u0 v0 u1 v1 u2 v2 S hand l0 l1 l2), .one (vi 2)]) ∨ ((JoinOk m l0 l1 l2) ∧ (kk = 2) ∧ ((l2.length : Int) + m.length ≤ 64) ∧ ∃ nl : Bool, ∃ cp : Bool, rs.mapM (backY H') = some [.agg (wC rn rc u0 v0 u1 v1 nl cp S hand l0 l1 (l2 ++ pin m)), .one (vi 0)])) by
  obtain ⟨rs, H', h1, h2⟩ := h
  rcases h2 with ⟨pr0, h2⟩ | ⟨pr0, pr1, pr2, h2⟩ | ⟨pr0, pr1, pr2, ex0, ex1, h2⟩ | ⟨pr0, pr1, pr2, h2⟩ | ⟨pr0, pr1, pr2, ex0, ex1, h2⟩ | ⟨pr0, pr1, pr2, h2⟩ | ⟨pr0, pr1, pr2, ex0, ex1, h2⟩
  · exact .inl (⟨pr0, rs, H', h1, h2⟩)
  · exact .inr (.inl (⟨pr0, pr1, pr2, rs, H', h1, h2⟩))
  · exact .inr (.inr (.inl (⟨pr0, pr1, pr2, ex0, ex1, rs, H', h1, h2⟩)))
  · exact .inr (.inr (.inr (.inl (⟨pr0, pr1, pr2, rs, H', h1, h2⟩))))
  · exact .inr (.inr (.inr (.inr (.inl (⟨pr0, pr1, pr2, ex0, ex1, rs, H', h1, h2⟩)))))
  · exact .inr (.inr (.inr (.inr (.inr (.inl (⟨pr0, pr1, pr2, rs, H', h1, h2⟩))))))
  · exact .inr (.inr (.inr (.inr (.inr (.inr (⟨pr0, pr1, pr2, ex0, ex1, rs, H', h1, h2⟩))))))
 refine rOF Try.func64 rfl ?_
 obtain ⟨n1, hn1⟩ := lX []
 obtain ⟨n2, hn2⟩ := lX ([] ++ [.obj (wC rn rc u0 v0 u1 v1 u2 v2 S hand l0 l1 l2)])
 refine rGz [(1, xi kk), (2, .y (.one (sv EN b nil cc m))), (3, yp n1), (6, yp n2)] (On.new' hn2 (.obj [nilC, vi 0, nilC, nilC, nilC]) (On.new' hn1 (.obj (wC rn rc u0 v0 u1 v1 u2 v2 S hand l0 l1 l2)) (On.nil []))) (zA 0 (qB 31 (wC rn rc u0 v0 u1 v1 u2 v2 S hand l0 l1 l2) hn1) (zL 1 (qO 31 [nilC, vi 0, nilC, nilC, nilC] hn2))) fun H3 hs4 => ?_
 refine wS ?_
 refine rSz [(1, xi kk), (2, .y (.one (sv EN b nil cc m))), (3, yp n1), (6, yp n2), (14, xb false)] H3 (zL 1 (qP1 H3 (rclass_in kk (by omega) (by omega)))) ?_
 refine wFk ?_
 refine wS ?_
 refine rs0 [(1, xi kk), (2, .y (.one (sv EN b nil cc m))), (3, yp n1), (6, yp n2), (8, xi 0)] ?_
 refine wB ?_
 refine Wp.loop (T := HH × Int) (fun t => match t with | (H6, i) => (((m.length : Int) - i).toNat : Nat)) (fun t => match t with | (H6, i) => ([(1, xi kk), (2, .y (.one (sv EN b nil cc m))), (3, yp n1), (6, yp n2), (8, xi i)] : Env)) (fun t => match t with | (H6, i) => (H6 : HH))
   (fun t => match t with | (H6, i) => (On [pts n1 (.obj (wC rn rc u0 v0 u1 v1 u2 v2 S hand l0 l1 l2)), pts n2 (.obj [nilC, vi 0, nilC, nilC, nilC])] H6 ∧ (0 ≤ i) ∧ (i ≤ (m.length : Int)) ∧ ((pids (m.take i.toNat)).Nodup) ∧ (∀ p ∈ pids (m.take i.toNat), p ∉ pids l0) ∧ (∀ p ∈ pids (m.take i.toNat), p ∉ pids l1) ∧ (∀ p ∈ pids (m.take i.toNat), p ∉ pids l2) : Prop)) (H3, 0) (by kernel_rfl) (⟨(On.pick [0, 1] [] (by kernel_rfl) hs4), by omega, by omega, by simp, by simp, by simp, by simp⟩) ?_
 rintro ⟨H6, i⟩ ⟨hs7, g1, g2, g3, g4, g5, g6⟩
 show Wp _ _ _ _ [(1, xi kk), (2, .y (.one (sv EN b nil cc m))), (3, yp n1), (6, yp n2), (8, xi i)] H6 _
 refine wS ?_
 by_cases c8 : (i : Int) < (m.length : Int)
 ·
  refine rSz [(1, xi kk), (2, .y (.one (sv EN b nil cc m))), (3, yp n1), (6, yp n2), (8, xi i), (19, xb true)] H6 (zL 3 (qlssT H6 i (m.length : Int))) ?_
  refine wTk ?_
  refine wS (wB ?_)
  refine wS ?_
  obtain ⟨x9, hx9⟩ : ∃ x, m[(i : Int).toNat]? = some x := get_of (by omega)
  have hz10 := posI_bd x9.1 l0
  have hz12 := posI_bd x9.1 l1
  have hz15 := posI_bd x9.1 l2
  by_cases c19 : (0 : Int) ≤ (posI x9.1 l0)
  ·
   refine rSz [(1, xi kk), (2, .y (.one (sv EN b nil cc m))), (3, yp n1), (6, yp n2), (8, xi i), (28, xb true)] H6 (zA 0 (qA 31 (On.at hs7 0 rfl)) (zA 3 (Jb (H := H6) (s := EN) (b := b) (nil := nil) (capd := cc) (t := 23) (el := 40) (i := i) Try.underlying23 (by kernel_rfl) (by kernel_rfl) (by omega) hx9) (zL 6 (qP2 H6 (rstands_0 false rn rc false u0 v0 false u1 v1 false u2 v2 S hand l0 l1 l2 x9.1 (by first | rfl | omega | (simp only [ek_]; omega) | (simp; done) | (simp; omega)) (by first | rfl | omega | (simp only [ek_]; omega) | (simp; done) | (simp; omega)) (by first | rfl | omega | (simp only [ek_]; omega) | (simp; done) | (simp; omega)) (by omega)))))) ?_
   refine wTa ?_
   refine rGz [(6, yp n2), (7, xi 1)] (On.put (.obj (wC rn rc u0 v0 u1 v1 u2 v2 S hand l0 l1 l2)) hs7 1 rfl) (zA 0 (qA 31 (On.at hs7 0 rfl)) (zL 1 (qS 31 0 (.agg (wC rn rc u0 v0 u1 v1 u2 v2 S hand l0 l1 l2)) (On.at hs7 1 rfl)))) fun H23 hs24 => ?_
   refine wE ?_
   refine ⟨Or.inr rfl, [.agg (wC rn rc u0 v0 u1 v1 u2 v2 S hand l0 l1 l2), .one (vi 1)], (rC (On.at hs24 1 rfl)), ?_⟩
   exact .inl (⟨(fun h => absurd (not_in h.2.1 hx9 : posI x9.1 l0 < 0) (by omega)), (by kernel_rfl)⟩)
  by_cases c28 : (0 : Int) ≤ (posI x9.1 l1)
  ·
   refine rSz [(1, xi kk), (2, .y (.one (sv EN b nil cc m))), (3, yp n1), (6, yp n2), (8, xi i), (28, xb true)] H6 (zA 0 (qA 31 (On.at hs7 0 rfl)) (zA 3 (Jb (H := H6) (s := EN) (b := b) (nil := nil) (capd := cc) (t := 23) (el := 40) (i := i) Try.underlying23 (by kernel_rfl) (by kernel_rfl) (by omega) hx9) (zL 6 (qP2 H6 (rstands_1 false rn rc false u0 v0 false u1 v1 false u2 v2 S hand l0 l1 l2 x9.1 (by first | rfl | omega | (simp only [ek_]; omega) | (simp; done) | (simp; omega)) (by first | rfl | omega | (simp only [ek_]; omega) | (simp; done) | (simp; omega)) (by first | rfl | omega | (simp only [ek_]; omega) | (simp; done) | (simp; omega)) (by omega) (by omega)))))) ?_
   refine wTa ?_
   refine rGz [(6, yp n2), (7, xi 1)] (On.put (.obj (wC rn rc u0 v0 u1 v1 u2 v2 S hand l0 l1 l2)) hs7 1 rfl) (zA 0 (qA 31 (On.at hs7 0 rfl)) (zL 1 (qS 31 0 (.agg (wC rn rc u0 v0 u1 v1 u2 v2 S hand l0 l1 l2)) (On.at hs7 1 rfl)))) fun H32 hs33 => ?_
   refine wE ?_
   refine ⟨Or.inr rfl, [.agg (wC rn rc u0 v0 u1 v1 u2 v2 S hand l0 l1 l2), .one (vi 1)], (rC (On.at hs33 1 rfl)), ?_⟩
   exact .inl (⟨(fun h => absurd (not_in h.2.2.1 hx9 : posI x9.1 l1 < 0) (by omega)), (by kernel_rfl)⟩)
  by_cases c37 : (0 : Int) ≤ (posI x9.1 l2)
  ·
   refine rSz [(1, xi kk), (2, .y (.one (sv EN b nil cc m))), (3, yp n1), (6, yp n2), (8, xi i), (28, xb true)] H6 (zA 0 (qA 31 (On.at hs7 0 rfl)) (zA 3 (Jb (H := H6) (s := EN) (b := b) (nil := nil) (capd := cc) (t := 23) (el := 40) (i := i) Try.underlying23 (by kernel_rfl) (by kernel_rfl) (by omega) hx9) (zL 6 (qP2 H6 (rstands_2 false rn rc false u0 v0 false u1 v1 false u2 v2 S hand l0 l1 l2 x9.1 (by first | rfl | omega | (simp only [ek_]; omega) | (simp; done) | (simp; omega)) (by first | rfl | omega | (simp only [ek_]; omega) | (simp; done) | (simp; omega)) (by first | rfl | omega | (simp only [ek_]; omega) | (simp; done) | (simp; omega)) (by omega) (by omega) (by omega)))))) ?_
   refine wTa ?_
   refine rGz [(6, yp n2), (7, xi 1)] (On.put (.obj (wC rn rc u0 v0 u1 v1 u2 v2 S hand l0 l1 l2)) hs7 1 rfl) (zA 0 (qA 31 (On.at hs7 0 rfl)) (zL 1 (qS 31 0 (.agg (wC rn rc u0 v0 u1 v1 u2 v2 S hand l0 l1 l2)) (On.at hs7 1 rfl)))) fun H41 hs42 => ?_
   refine wE ?_
   refine ⟨Or.inr rfl, [.agg (wC rn rc u0 v0 u1 v1 u2 v2 S hand l0 l1 l2), .one (vi 1)], (rC (On.at hs42 1 rfl)), ?_⟩
   exact .inl (⟨(fun h => absurd (not_in h.2.2.2 hx9 : posI x9.1 l2 < 0) (by omega)), (by kernel_rfl)⟩)
  refine rSz [(1, xi kk), (2, .y (.one (sv EN b nil cc m))), (3, yp n1), (6, yp n2), (8, xi i), (28, xb false)] H6 (zA 0 (qA 31 (On.at hs7 0 rfl)) (zA 3 (Jb (H := H6) (s := EN) (b := b) (nil := nil) (capd := cc) (t := 23) (el := 40) (i := i) Try.underlying23 (by kernel_rfl) (by kernel_rfl) (by omega) hx9) (zL 6 (qP2 H6 (rstands_3 false rn rc false u0 v0 false u1 v1 false u2 v2 S hand l0 l1 l2 x9.1 (by first | rfl | omega | (simp only [ek_]; omega) | (simp; done) | (simp; omega)) (by first | rfl | omega | (simp only [ek_]; omega) | (simp; done) | (simp; omega)) (by first | rfl | omega | (simp only [ek_]; omega) | (simp; done) | (simp; omega)) (by omega) (by omega) (by omega)))))) ?_
  refine wFk ?_
  refine rs0 [(1, xi kk), (2, .y (.one (sv EN b nil cc m))), (3, yp n1), (6, yp n2), (8, xi i), (9, xi 0)] ?_
  refine wB ?_
  refine Wp.loop (T := HH × Int) (fun t => match t with | (H47, j) => ((i - j).toNat : Nat)) (fun t => match t with | (H47, j) => ([(1, xi kk), (2, .y (.one (sv EN b nil cc m))), (3, yp n1), (6, yp n2), (8, xi i), (9, xi j)] : Env)) (fun t => match t with | (H47, j) => (H47 : HH))
    (fun t => match t with | (H47, j) => (On [pts n1 (.obj (wC rn rc u0 v0 u1 v1 u2 v2 S hand l0 l1 l2)), pts n2 (.obj [nilC, vi 0, nilC, nilC, nilC])] H47 ∧ (0 ≤ j) ∧ (j ≤ i) ∧ (∀ y ∈ m.take j.toNat, eqb PN y.1 x9.1 = false) : Prop)) (H6, 0) (by kernel_rfl) (⟨(On.pick [0, 1] [] (by kernel_rfl) hs7), by omega, by omega, by simp⟩) ?_
  rintro ⟨H47, j⟩ ⟨hs48, k1, k2, k3⟩
  show Wp _ _ _ _ [(1, xi kk), (2, .y (.one (sv EN b nil cc m))), (3, yp n1), (6, yp n2), (8, xi i), (9, xi j)] H47 _
  refine wS ?_
  by_cases c49 : (j : Int) < i
  ·
   refine rSz [(1, xi kk), (2, .y (.one (sv EN b nil cc m))), (3, yp n1), (6, yp n2), (8, xi i), (9, xi j), (32, xb true)] H47 (zL 2 (qlssT H47 j i)) ?_
   refine wTk ?_
   refine wS (wB ?_)
   obtain ⟨x50, hx50⟩ : ∃ x, m[(j : Int).toNat]? = some x := get_of (by omega)
   rcases Bool.eq_false_or_eq_true ((eqb PN x50.1 x9.1)) with c51 | c51
   ·
    refine rSz [(1, xi kk), (2, .y (.one (sv EN b nil cc m))), (3, yp n1), (6, yp n2), (8, xi i), (9, xi j), (45, xb true)] H47 (zA 2 (Jb (H := H47) (s := EN) (b := b) (nil := nil) (capd := cc) (t := 23) (el := 40) (i := j) Try.underlying23 (by kernel_rfl) (by kernel_rfl) (by omega) hx50) (zA 7 (Jb (H := H47) (s := EN) (b := b) (nil := nil) (capd := cc) (t := 23) (el := 40) (i := i) Try.underlying23 (by kernel_rfl) (by kernel_rfl) (by omega) hx9) (zL 10 (Ji (H := H47) (s := PN) (t := 38) (u := 38) (ty := 0) (x := x50.1) (y := x9.1) (r := true) (by kernel_rfl) c51)))) ?_
    refine wTa ?_
    refine rGz [(6, yp n2), (7, xi 1)] (On.put (.obj (wC rn rc u0 v0 u1 v1 u2 v2 S hand l0 l1 l2)) hs48 1 rfl) (zA 0 (qA 31 (On.at hs48 0 rfl)) (zL 1 (qS 31 0 (.agg (wC rn rc u0 v0 u1 v1 u2 v2 S hand l0 l1 l2)) (On.at hs48 1 rfl)))) fun H52 hs53 => ?_
    refine wE ?_
    refine ⟨Or.inr rfl, [.agg (wC rn rc u0 v0 u1 v1 u2 v2 S hand l0 l1 l2), .one (vi 1)], (rC (On.at hs53 1 rfl)), ?_⟩
    exact .inl (⟨(fun h => by have := nd_ne h.1 k1 (by omega) hx9 hx50; rw [this] at c51; cases c51), (by kernel_rfl)⟩)
   refine rSz [(1, xi kk), (2, .y (.one (sv EN b nil cc m))), (3, yp n1), (6, yp n2), (8, xi i), (9, xi j), (45, xb false)] H47 (zA 2 (Jb (H := H47) (s := EN) (b := b) (nil := nil) (capd := cc) (t := 23) (el := 40) (i := j) Try.underlying23 (by kernel_rfl) (by kernel_rfl) (by omega) hx50) (zA 7 (Jb (H := H47) (s := EN) (b := b) (nil := nil) (capd := cc) (t := 23) (el := 40) (i := i) Try.underlying23 (by kernel_rfl) (by kernel_rfl) (by omega) hx9) (zL 10 (Ji (H := H47) (s := PN) (t := 38) (u := 38) (ty := 0) (x := x50.1) (y := x9.1) (r := false) (by kernel_rfl) c51)))) ?_
   refine wFk ?_
   refine rRz [(1, xi kk), (2, .y (.one (sv EN b nil cc m))), (3, yp n1), (6, yp n2), (8, xi i), (9, xi (j + 1))] H47 (zL 1 (qoAdd H47 j 1 (j + 1))) ?_
   exact ⟨(H47, (j + 1)), by kernel_rfl, (⟨(On.pick [0, 1] [] (by kernel_rfl) hs48), by omega, by omega, idx_step k1 k3 hx50 c51⟩), (by show (_ : Nat) < _; simp only []; omega)⟩
  refine rSz [(1, xi kk), (2, .y (.one (sv EN b nil cc m))), (3, yp n1), (6, yp n2), (8, xi i), (9, xi j), (32, xb false)] H47 (zL 2 (qlssF H47 j i)) ?_
  refine wFa ?_
  refine wX ?_
  refine Eq.mpr (if_pos rfl) ?_
  refine rRz [(1, xi kk), (2, .y (.one (sv EN b nil cc m))), (3, yp n1), (6, yp n2), (8, xi (i + 1))] H47 (zL 1 (qoAdd H47 i 1 (i + 1))) ?_
  exact ⟨(H47, (i + 1)), by kernel_rfl, (⟨(On.pick [0, 1] [] (by kernel_rfl) hs48), by omega, by omega, nd_step (j := j) g3 g1 (by omega) hx9 k3, out_step g4 g1 hx9 (by omega), out_step g5 g1 hx9 (by omega), out_step g6 g1 hx9 (by omega)⟩), (by show (_ : Nat) < _; simp only []; omega)⟩
 refine rSz [(1, xi kk), (2, .y (.one (sv EN b nil cc m))), (3, yp n1), (6, yp n2), (8, xi i), (19, xb false)] H6 (zL 3 (qlssF H6 i (m.length : Int))) ?_
 refine wFa ?_
 refine wX ?_
 refine Eq.mpr (if_pos rfl) ?_
 refine wS ?_
 rcases (show kk = 0 ∨ kk = 1 ∨ kk = 2 from by omega) with rfl | rfl | rfl
 ·
  by_cases c54 : ((-(l0.length : Int) + 64) : Int) < (m.length : Int)
  ·
   refine rSz [(1, xi 0), (2, .y (.one (sv EN b nil cc m))), (3, yp n1), (6, yp n2), (55, xb true)] H6 (zA 5 (qL 23 2 (.one (sv EN false u0 v0 l0)) (On.at hs7 0 rfl)) (zA 7 (qoSub H6 64 (l0.length : Int) (-(l0.length : Int) + 64)) (zL 8 (qgtrT H6 (m.length : Int) (-(l0.length : Int) + 64))))) ?_
   refine wTa ?_
   refine rGz [(6, yp n2), (7, xi 2)] (On.put (.obj (wC rn rc u0 v0 u1 v1 u2 v2 S hand l0 l1 l2)) hs7 1 rfl) (zA 0 (qA 31 (On.at hs7 0 rfl)) (zL 1 (qS 31 0 (.agg (wC rn rc u0 v0 u1 v1 u2 v2 S hand l0 l1 l2)) (On.at hs7 1 rfl)))) fun H55 hs56 => ?_
   refine wE ?_
   refine ⟨Or.inr rfl, [.agg (wC rn rc u0 v0 u1 v1 u2 v2 S hand l0 l1 l2), .one (vi 2)], (rC (On.at hs56 1 rfl)), ?_⟩
   exact .inr (.inl (⟨(⟨by rw [take_all (show (m.length : Int) ≤ i by omega)] at g3; exact g3, by rw [take_all (show (m.length : Int) ≤ i by omega)] at g4; exact g4, by rw [take_all (show (m.length : Int) ≤ i by omega)] at g5; exact g5, by rw [take_all (show (m.length : Int) ≤ i by omega)] at g6; exact g6⟩ : JoinOk m l0 l1 l2), rfl, by omega, (by kernel_rfl)⟩))
  refine rSz [(1, xi 0), (2, .y (.one (sv EN b nil cc m))), (3, yp n1), (6, yp n2), (55, xb false)] H6 (zA 5 (qL 23 2 (.one (sv EN false u0 v0 l0)) (On.at hs7 0 rfl)) (zA 7 (qoSub H6 64 (l0.length : Int) (-(l0.length : Int) + 64)) (zL 8 (qgtrF H6 (m.length : Int) (-(l0.length : Int) + 64))))) ?_
  refine wFk ?_
  refine rs0 [(1, xi 0), (2, .y (.one (sv EN b nil cc m))), (3, yp n1), (6, yp n2), (10, .y (.one (nilC)))] ?_
  obtain ⟨cv57, H58, ho59, hs60⟩ := or_append_nil (P := pg) (A := an) (s := EN) (t := 23) (u := 23) (el := 40) (by_ := 24) (z := [vi 0, vi 0, vb false]) (ty := 0) (y := sv EN false u0 v0 l0) (lm := l0) (m := l0.length) hs7 ((slCells_slO (H := H6) (s := EN) (b := false) (nil := u0) (capd := v0) (l := l0) (n := l0.length) (by first | rfl | omega | (simp only [ek_]; omega) | (simp; done) | (simp; omega)))) (by kernel_rfl) (by kernel_rfl) (by kernel_rfl) (by kernel_rfl) (by kernel_rfl) (by kernel_rfl) (by kernel_rfl) (by first | rfl | omega | (simp only [ek_]; omega) | (simp; done) | (simp; omega)) (by omega) (by omega)
  have hs60l : (l0.length : Int) = (l0.length : Int) := by { first | omega | (simp only [ej_]; omega) | (simp; done) | (simp; omega) }
  refine rGz [(1, xi 0), (2, .y (.one (sv EN b nil cc m))), (3, yp n1), (6, yp n2), (10, .y (.one (cv57)))] hs60 (zA 4 (qL 23 2 (.one (sv EN false u0 v0 l0)) (On.at hs7 0 rfl)) (zL 5 ho59)) fun H61 hs62 => ?_
  refine wS ?_
  refine rs0 [(1, xi 0), (2, .y (.one (sv EN b nil cc m))), (3, yp n1), (6, yp n2), (10, .y (.one (cv57))), (11, xi 0)] ?_
  refine wB ?_
  refine Wp.loop (T := HH × Int × C) (fun t => match t with | (H64, i3, cv) => (((m.length : Int) - i3).toNat : Nat)) (fun t => match t with | (H64, i3, cv) => ([(1, xi 0), (2, .y (.one (sv EN b nil cc m))), (3, yp n1), (6, yp n2), (10, .y (.one (cv))), (11, xi i3)] : Env)) (fun t => match t with | (H64, i3, cv) => (H64 : HH))
    (fun t => match t with | (H64, i3, cv) => (On [pts n1 (.obj (wC rn rc u0 v0 u1 v1 u2 v2 S hand l0 l1 l2)), pts n2 (.obj [nilC, vi 0, nilC, nilC, nilC]), itemsP EN cv (l0 ++ pin (m.take (i3 : Int).toNat))] H64 ∧ (0 ≤ i3) ∧ (i3 ≤ (m.length : Int)) ∧ (((l0 ++ pin (m.take (i3 : Int).toNat)).length : Int) = l0.length + i3) : Prop)) (H61, 0, cv57) (by kernel_rfl) (⟨(On.pick [0, 1, 2] [] (by kernel_rfl) (On.mono (A' := itemsP EN cv57 (l0 ++ pin (m.take (0 : Int).toNat))) 2 rfl (fun _ x => by rw [← (show l0 = (l0 ++ pin (m.take (0 : Int).toNat)) from (by simp))]; exact x) hs62)), by omega, by omega, by simp⟩) ?_
  rintro ⟨H64, i3, cv⟩ ⟨hs65, q1, q2, q3⟩
  show Wp _ _ _ _ [(1, xi 0), (2, .y (.one (sv EN b nil cc m))), (3, yp n1), (6, yp n2), (10, .y (.one (cv))), (11, xi i3)] H64 _
  refine wS ?_
  by_cases c66 : (i3 : Int) < (m.length : Int)
  ·
   refine rSz [(1, xi 0), (2, .y (.one (sv EN b nil cc m))), (3, yp n1), (6, yp n2), (10, .y (.one (cv))), (11, xi i3), (66, xb true)] H64 (zL 3 (qlssT H64 i3 (m.length : Int))) ?_
   refine wTk ?_
   refine wS (wB ?_)
   obtain ⟨x67, hx67⟩ : ∃ x, m[(i3 : Int).toNat]? = some x := get_of (by omega)
   obtain ⟨cv68, H69, ho70, hs71⟩ := or_append_items (P := pg) (A := an) (s := EN) (t := 23) (u := 23) (el := 40) (by_ := 24) (z := [vi 0, vi 0, vb false]) (ty := 0) (y := .sl false false true [vi x67.1.1, vi x67.1.2.1, vb true] 1) (lm := ([(x67.1, (true, ()))])) (m := 1) hs65 2 rfl ((slCells_slO (H := H64) (s := EN) (b := false) (nil := false) (capd := true) (l := [(x67.1, (true, ()))]) (n := 1) (by first | rfl | omega | (simp only [ek_]; omega) | (simp; done) | (simp; omega)))) (by kernel_rfl) (by kernel_rfl) (by kernel_rfl) (by kernel_rfl) (by kernel_rfl) (by kernel_rfl) (by kernel_rfl) (by first | rfl | omega | (simp only [ek_]; omega) | (simp; done) | (simp; omega)) (by omega) (by omega)
   have hs71l : (((l0 ++ pin (m.take (i3 : Int).toNat)) ++ ([(x67.1, (true, ()))])).length : Int) = (((l0 ++ pin (m.take (i3 : Int).toNat)).length : Int) + 1) := by { first | omega | (simp only [ej_]; omega) | (simp; done) | (simp; omega) }
   refine rHz [(1, xi 0), (2, .y (.one (sv EN b nil cc m))), (3, yp n1), (6, yp n2), (10, .y (.one (cv68))), (11, xi i3)] hs71 (zA 3 (Jb (H := H64) (s := EN) (b := b) (nil := nil) (capd := cc) (t := 23) (el := 40) (i := i3) Try.underlying23 (by kernel_rfl) (by kernel_rfl) (by omega) hx67) (zL 8 ho70)) fun H72 hs73 => ?_
   refine wK ?_
   refine rRz [(1, xi 0), (2, .y (.one (sv EN b nil cc m))), (3, yp n1), (6, yp n2), (10, .y (.one (cv68))), (11, xi (i3 + 1))] H72 (zL 1 (qoAdd H72 i3 1 (i3 + 1))) ?_
   exact ⟨(H72, (i3 + 1), cv68), by kernel_rfl, (⟨(On.pick [0, 1, 2] [] (by kernel_rfl) (On.mono (A' := itemsP EN cv68 (l0 ++ pin (m.take ((i3 + 1) : Int).toNat))) 2 rfl (fun _ x => by rw [← (show ((l0 ++ pin (m.take (i3 : Int).toNat)) ++ ([(x67.1, (true, ()))])) = (l0 ++ pin (m.take ((i3 + 1) : Int).toNat)) from (pin_snoc q1 hx67))]; exact x) hs73)), by omega, by omega, by simp only [ej_, eo_, eh_]; omega⟩), (by show (_ : Nat) < _; simp only []; omega)⟩
  refine rSz [(1, xi 0), (2, .y (.one (sv EN b nil cc m))), (3, yp n1), (6, yp n2), (10, .y (.one (cv))), (11, xi i3), (66, xb false)] H64 (zL 3 (qlssF H64 i3 (m.length : Int))) ?_
  refine wFa ?_
  refine wX ?_
  refine Eq.mpr (if_pos rfl) ?_
  have hv74 : C.live cv = true := items_live hs65 2 rfl
  refine rGz [(3, yp n1), (6, yp n2)] (On.put (.obj [sv NI false rn rc S, vi hand, cv, sv EN false u1 v1 l1, sv EN false u2 v2 l2]) hs65 0 rfl) (zL 4 (Jd (H := H64) (t := 23) (ty := 0) (id := n1) (off := 2) (cs := (wC rn rc u0 v0 u1 v1 u2 v2 S hand l0 l1 l2)) (cs' := [sv NI false rn rc S, vi hand, cv, sv EN false u1 v1 l1, sv EN false u2 v2 l2]) (v := .one (cv)) (On.at hs65 0 rfl) (by kernel_rfl) (live_cons hv74 live_nil) (by kernel_rfl) (by kernel_rfl))) fun H75 hs76 => ?_
  refine rGz [(6, yp n2), (7, xi 0)] (On.put (.obj [sv NI false rn rc S, vi hand, cv, sv EN false u1 v1 l1, sv EN false u2 v2 l2]) hs76 1 rfl) (zA 0 (qA 31 (On.at hs76 0 rfl)) (zL 1 (Jd (H := H75) (t := 31) (ty := 0) (id := n2) (off := 0) (cs := [nilC, vi 0, nilC, nilC, nilC]) (cs' := [sv NI false rn rc S, vi hand, cv, sv EN false u1 v1 l1, sv EN false u2 v2 l2]) (v := .agg [sv NI false rn rc S, vi hand, cv, sv EN false u1 v1 l1, sv EN false u2 v2 l2]) (On.at hs76 1 rfl) (by kernel_rfl) (live_cons rfl (live_cons rfl (live_cons hv74 (live_cons rfl (live_cons rfl live_nil))))) (by kernel_rfl) (by kernel_rfl)))) fun H77 hs78 => ?_
  refine wE ?_
  refine ⟨Or.inr rfl, [.agg [sv NI false rn rc S, vi hand, cv, sv EN false u1 v1 l1, sv EN false u2 v2 l2], .one (vi 0)], (rC (On.at hs78 1 rfl)), ?_⟩
  obtain ⟨fn79, fp80, hf81⟩ := items_back hs78 2 rfl
  exact .inr (.inr (.inl (⟨(⟨by rw [take_all (show (m.length : Int) ≤ i by omega)] at g3; exact g3, by rw [take_all (show (m.length : Int) ≤ i by omega)] at g4; exact g4, by rw [take_all (show (m.length : Int) ≤ i by omega)] at g5; exact g5, by rw [take_all (show (m.length : Int) ≤ i by omega)] at g6; exact g6⟩ : JoinOk m l0 l1 l2), rfl, by omega, fn79, fp80, (by have e9 : (l0 ++ pin (m.take (i3 : Int).toNat)) = (l0 ++ pin m) := (by rw [take_all (show (m.length : Int) ≤ i3 by omega)]); rw [← e9]; exact (back_cons (back_agg (mapM_cons' (by kernel_rfl) (mapM_cons' (by kernel_rfl) (mapM_cons' hf81 (mapM_cons' (by kernel_rfl) (mapM_cons' (by kernel_rfl) mapM_nil')))))) (back_cons (by kernel_rfl) rfl)))⟩)))
 ·
  by_cases c82 : ((-(l1.length : Int) + 64) : Int) < (m.length : Int)
  ·
   refine rSz [(1, xi 1), (2, .y (.one (sv EN b nil cc m))), (3, yp n1), (6, yp n2), (55, xb true)] H6 (zA 5 (qL 23 3 (.one (sv EN false u1 v1 l1)) (On.at hs7 0 rfl)) (zA 7 (qoSub H6 64 (l1.length : Int) (-(l1.length : Int) + 64)) (zL 8 (qgtrT H6 (m.length : Int) (-(l1.length : Int) + 64))))) ?_
   refine wTa ?_
   refine rGz [(6, yp n2), (7, xi 2)] (On.put (.obj (wC rn rc u0 v0 u1 v1 u2 v2 S hand l0 l1 l2)) hs7 1 rfl) (zA 0 (qA 31 (On.at hs7 0 rfl)) (zL 1 (qS 31 0 (.agg (wC rn rc u0 v0 u1 v1 u2 v2 S hand l0 l1 l2)) (On.at hs7 1 rfl)))) fun H83 hs84 => ?_
   refine wE ?_
   refine ⟨Or.inr rfl, [.agg (wC rn rc u0 v0 u1 v1 u2 v2 S hand l0 l1 l2), .one (vi 2)], (rC (On.at hs84 1 rfl)), ?_⟩
   exact .inr (.inr (.inr (.inl (⟨(⟨by rw [take_all (show (m.length : Int) ≤ i by omega)] at g3; exact g3, by rw [take_all (show (m.length : Int) ≤ i by omega)] at g4; exact g4, by rw [take_all (show (m.length : Int) ≤ i by omega)] at g5; exact g5, by rw [take_all (show (m.length : Int) ≤ i by omega)] at g6; exact g6⟩ : JoinOk m l0 l1 l2), rfl, by omega, (by kernel_rfl)⟩))))
  refine rSz [(1, xi 1), (2, .y (.one (sv EN b nil cc m))), (3, yp n1), (6, yp n2), (55, xb false)] H6 (zA 5 (qL 23 3 (.one (sv EN false u1 v1 l1)) (On.at hs7 0 rfl)) (zA 7 (qoSub H6 64 (l1.length : Int) (-(l1.length : Int) + 64)) (zL 8 (qgtrF H6 (m.length : Int) (-(l1.length : Int) + 64))))) ?_
  refine wFk ?_
  refine rs0 [(1, xi 1), (2, .y (.one (sv EN b nil cc m))), (3, yp n1), (6, yp n2), (10, .y (.one (nilC)))] ?_
  obtain ⟨cv85, H86, ho87, hs88⟩ := or_append_nil (P := pg) (A := an) (s := EN) (t := 23) (u := 23) (el := 40) (by_ := 24) (z := [vi 0, vi 0, vb false]) (ty := 0) (y := sv EN false u1 v1 l1) (lm := l1) (m := l1.length) hs7 ((slCells_slO (H := H6) (s := EN) (b := false) (nil := u1) (capd := v1) (l := l1) (n := l1.length) (by first | rfl | omega | (simp only [ek_]; omega) | (simp; done) | (simp; omega)))) (by kernel_rfl) (by kernel_rfl) (by kernel_rfl) (by kernel_rfl) (by kernel_rfl) (by kernel_rfl) (by kernel_rfl) (by first | rfl | omega | (simp only [ek_]; omega) | (simp; done) | (simp; omega)) (by omega) (by omega)
  have hs88l : (l1.length : Int) = (l1.length : Int) := by { first | omega | (simp only [ej_]; omega) | (simp; done) | (simp; omega) }
  refine rGz [(1, xi 1), (2, .y (.one (sv EN b nil cc m))), (3, yp n1), (6, yp n2), (10, .y (.one (cv85)))] hs88 (zA 4 (qL 23 3 (.one (sv EN false u1 v1 l1)) (On.at hs7 0 rfl)) (zL 5 ho87)) fun H89 hs90 => ?_
  refine wS ?_
  refine rs0 [(1, xi 1), (2, .y (.one (sv EN b nil cc m))), (3, yp n1), (6, yp n2), (10, .y (.one (cv85))), (11, xi 0)] ?_
  refine wB ?_
  refine Wp.loop (T := HH × Int × C) (fun t => match t with | (H92, i3, cv) => (((m.length : Int) - i3).toNat : Nat)) (fun t => match t with | (H92, i3, cv) => ([(1, xi 1), (2, .y (.one (sv EN b nil cc m))), (3, yp n1), (6, yp n2), (10, .y (.one (cv))), (11, xi i3)] : Env)) (fun t => match t with | (H92, i3, cv) => (H92 : HH))
    (fun t => match t with | (H92, i3, cv) => (On [pts n1 (.obj (wC rn rc u0 v0 u1 v1 u2 v2 S hand l0 l1 l2)), pts n2 (.obj [nilC, vi 0, nilC, nilC, nilC]), itemsP EN cv (l1 ++ pin (m.take (i3 : Int).toNat))] H92 ∧ (0 ≤ i3) ∧ (i3 ≤ (m.length : Int)) ∧ (((l1 ++ pin (m.take (i3 : Int).toNat)).length : Int) = l1.length + i3) : Prop)) (H89, 0, cv85) (by kernel_rfl) (⟨(On.pick [0, 1, 2] [] (by kernel_rfl) (On.mono (A' := itemsP EN cv85 (l1 ++ pin (m.take (0 : Int).toNat))) 2 rfl (fun _ x => by rw [← (show l1 = (l1 ++ pin (m.take (0 : Int).toNat)) from (by simp))]; exact x) hs90)), by omega, by omega, by simp⟩) ?_
  rintro ⟨H92, i3, cv⟩ ⟨hs93, q1, q2, q3⟩
  show Wp _ _ _ _ [(1, xi 1), (2, .y (.one (sv EN b nil cc m))), (3, yp n1), (6, yp n2), (10, .y (.one (cv))), (11, xi i3)] H92 _
  refine wS ?_
  by_cases c94 : (i3 : Int) < (m.length : Int)
  ·
   refine rSz [(1, xi 1), (2, .y (.one (sv EN b nil cc m))), (3, yp n1), (6, yp n2), (10, .y (.one (cv))), (11, xi i3), (66, xb true)] H92 (zL 3 (qlssT H92 i3 (m.length : Int))) ?_
   refine wTk ?_
   refine wS (wB ?_)
   obtain ⟨x95, hx95⟩ : ∃ x, m[(i3 : Int).toNat]? = some x := get_of (by omega)
   obtain ⟨cv96, H97, ho98, hs99⟩ := or_append_items (P := pg) (A := an) (s := EN) (t := 23) (u := 23) (el := 40) (by_ := 24) (z := [vi 0, vi 0, vb false]) (ty := 0) (y := .sl false false true [vi x95.1.1, vi x95.1.2.1, vb true] 1) (lm := ([(x95.1, (true, ()))])) (m := 1) hs93 2 rfl ((slCells_slO (H := H92) (s := EN) (b := false) (nil := false) (capd := true) (l := [(x95.1, (true, ()))]) (n := 1) (by first | rfl | omega | (simp only [ek_]; omega) | (simp; done) | (simp; omega)))) (by kernel_rfl) (by kernel_rfl) (by kernel_rfl) (by kernel_rfl) (by kernel_rfl) (by kernel_rfl) (by kernel_rfl) (by first | rfl | omega | (simp only [ek_]; omega) | (simp; done) | (simp; omega)) (by omega) (by omega)
   have hs99l : (((l1 ++ pin (m.take (i3 : Int).toNat)) ++ ([(x95.1, (true, ()))])).length : Int) = (((l1 ++ pin (m.take (i3 : Int).toNat)).length : Int) + 1) := by { first | omega | (simp only [ej_]; omega) | (simp; done) | (simp; omega) }
   refine rHz [(1, xi 1), (2, .y (.one (sv EN b nil cc m))), (3, yp n1), (6, yp n2), (10, .y (.one (cv96))), (11, xi i3)] hs99 (zA 3 (Jb (H := H92) (s := EN) (b := b) (nil := nil) (capd := cc) (t := 23) (el := 40) (i := i3) Try.underlying23 (by kernel_rfl) (by kernel_rfl) (by omega) hx95) (zL 8 ho98)) fun H100 hs101 => ?_
   refine wK ?_
   refine rRz [(1, xi 1), (2, .y (.one (sv EN b nil cc m))), (3, yp n1), (6, yp n2), (10, .y (.one (cv96))), (11, xi (i3 + 1))] H100 (zL 1 (qoAdd H100 i3 1 (i3 + 1))) ?_
   exact ⟨(H100, (i3 + 1), cv96), by kernel_rfl, (⟨(On.pick [0, 1, 2] [] (by kernel_rfl) (On.mono (A' := itemsP EN cv96 (l1 ++ pin (m.take ((i3 + 1) : Int).toNat))) 2 rfl (fun _ x => by rw [← (show ((l1 ++ pin (m.take (i3 : Int).toNat)) ++ ([(x95.1, (true, ()))])) = (l1 ++ pin (m.take ((i3 + 1) : Int).toNat)) from (pin_snoc q1 hx95))]; exact x) hs101)), by omega, by omega, by simp only [ej_, eo_, eh_]; omega⟩), (by show (_ : Nat) < _; simp only []; omega)⟩
  refine rSz [(1, xi 1), (2, .y (.one (sv EN b nil cc m))), (3, yp n1), (6, yp n2), (10, .y (.one (cv))), (11, xi i3), (66, xb false)] H92 (zL 3 (qlssF H92 i3 (m.length : Int))) ?_
  refine wFa ?_
  refine wX ?_
  refine Eq.mpr (if_pos rfl) ?_
  have hv102 : C.live cv = true := items_live hs93 2 rfl
  refine rGz [(3, yp n1), (6, yp n2)] (On.put (.obj [sv NI false rn rc S, vi hand, sv EN false u0 v0 l0, cv, sv EN false u2 v2 l2]) hs93 0 rfl) (zL 4 (Jd (H := H92) (t := 23) (ty := 0) (id := n1) (off := 3) (cs := (wC rn rc u0 v0 u1 v1 u2 v2 S hand l0 l1 l2)) (cs' := [sv NI false rn rc S, vi hand, sv EN false u0 v0 l0, cv, sv EN false u2 v2 l2]) (v := .one (cv)) (On.at hs93 0 rfl) (by kernel_rfl) (live_cons hv102 live_nil) (by kernel_rfl) (by kernel_rfl))) fun H103 hs104 => ?_
  refine rGz [(6, yp n2), (7, xi 0)] (On.put (.obj [sv NI false rn rc S, vi hand, sv EN false u0 v0 l0, cv, sv EN false u2 v2 l2]) hs104 1 rfl) (zA 0 (qA 31 (On.at hs104 0 rfl)) (zL 1 (Jd (H := H103) (t := 31) (ty := 0) (id := n2) (off := 0) (cs := [nilC, vi 0, nilC, nilC, nilC]) (cs' := [sv NI false rn rc S, vi hand, sv EN false u0 v0 l0, cv, sv EN false u2 v2 l2]) (v := .agg [sv NI false rn rc S, vi hand, sv EN false u0 v0 l0, cv, sv EN false u2 v2 l2]) (On.at hs104 1 rfl) (by kernel_rfl) (live_cons rfl (live_cons rfl (live_cons rfl (live_cons hv102 (live_cons rfl live_nil))))) (by kernel_rfl) (by kernel_rfl)))) fun H105 hs106 => ?_
  refine wE ?_
  refine ⟨Or.inr rfl, [.agg [sv NI false rn rc S, vi hand, sv EN false u0 v0 l0, cv, sv EN false u2 v2 l2], .one (vi 0)], (rC (On.at hs106 1 rfl)), ?_⟩
  obtain ⟨fn107, fp108, hf109⟩ := items_back hs106 2 rfl
  exact .inr (.inr (.inr (.inr (.inl (⟨(⟨by rw [take_all (show (m.length : Int) ≤ i by omega)] at g3; exact g3, by rw [take_all (show (m.length : Int) ≤ i by omega)] at g4; exact g4, by rw [take_all (show (m.length : Int) ≤ i by omega)] at g5; exact g5, by rw [take_all (show (m.length : Int) ≤ i by omega)] at g6; exact g6⟩ : JoinOk m l0 l1 l2), rfl, by omega, fn107, fp108, (by have e9 : (l1 ++ pin (m.take (i3 : Int).toNat)) = (l1 ++ pin m) := (by rw [take_all (show (m.length : Int) ≤ i3 by omega)]); rw [← e9]; exact (back_cons (back_agg (mapM_cons' (by kernel_rfl) (mapM_cons' (by kernel_rfl) (mapM_cons' (by kernel_rfl) (mapM_cons' hf109 (mapM_cons' (by kernel_rfl) mapM_nil')))))) (back_cons (by kernel_rfl) rfl)))⟩)))))
 by_cases c110 : ((-(l2.length : Int) + 64) : Int) < (m.length : Int)
 ·
  refine rSz [(1, xi 2), (2, .y (.one (sv EN b nil cc m))), (3, yp n1), (6, yp n2), (55, xb true)] H6 (zA 5 (qL 23 4 (.one (sv EN false u2 v2 l2)) (On.at hs7 0 rfl)) (zA 7 (qoSub H6 64 (l2.length : Int) (-(l2.length : Int) + 64)) (zL 8 (qgtrT H6 (m.length : Int) (-(l2.length : Int) + 64))))) ?_
  refine wTa ?_
  refine rGz [(6, yp n2), (7, xi 2)] (On.put (.obj (wC rn rc u0 v0 u1 v1 u2 v2 S hand l0 l1 l2)) hs7 1 rfl) (zA 0 (qA 31 (On.at hs7 0 rfl)) (zL 1 (qS 31 0 (.agg (wC rn rc u0 v0 u1 v1 u2 v2 S hand l0 l1 l2)) (On.at hs7 1 rfl)))) fun H111 hs112 => ?_
  refine wE ?_
  refine ⟨Or.inr rfl, [.agg (wC rn rc u0 v0 u1 v1 u2 v2 S hand l0 l1 l2), .one (vi 2)], (rC (On.at hs112 1 rfl)), ?_⟩
  exact .inr (.inr (.inr (.inr (.inr (.inl (⟨(⟨by rw [take_all (show (m.length : Int) ≤ i by omega)] at g3; exact g3, by rw [take_all (show (m.length : Int) ≤ i by omega)] at g4; exact g4, by rw [take_all (show (m.length : Int) ≤ i by omega)] at g5; exact g5, by rw [take_all (show (m.length : Int) ≤ i by omega)] at g6; exact g6⟩ : JoinOk m l0 l1 l2), rfl, by omega, (by kernel_rfl)⟩))))))
 refine rSz [(1, xi 2), (2, .y (.one (sv EN b nil cc m))), (3, yp n1), (6, yp n2), (55, xb false)] H6 (zA 5 (qL 23 4 (.one (sv EN false u2 v2 l2)) (On.at hs7 0 rfl)) (zA 7 (qoSub H6 64 (l2.length : Int) (-(l2.length : Int) + 64)) (zL 8 (qgtrF H6 (m.length : Int) (-(l2.length : Int) + 64))))) ?_
 refine wFk ?_
 refine rs0 [(1, xi 2), (2, .y (.one (sv EN b nil cc m))), (3, yp n1), (6, yp n2), (10, .y (.one (nilC)))] ?_
 obtain ⟨cv113, H114, ho115, hs116⟩ := or_append_nil (P := pg) (A := an) (s := EN) (t := 23) (u := 23) (el := 40) (by_ := 24) (z := [vi 0, vi 0, vb false]) (ty := 0) (y := sv EN false u2 v2 l2) (lm := l2) (m := l2.length) hs7 ((slCells_slO (H := H6) (s := EN) (b := false) (nil := u2) (capd := v2) (l := l2) (n := l2.length) (by first | rfl | omega | (simp only [ek_]; omega) | (simp; done) | (simp; omega)))) (by kernel_rfl) (by kernel_rfl) (by kernel_rfl) (by kernel_rfl) (by kernel_rfl) (by kernel_rfl) (by kernel_rfl) (by first | rfl | omega | (simp only [ek_]; omega) | (simp; done) | (simp; omega)) (by omega) (by omega)
 have hs116l : (l2.length : Int) = (l2.length : Int) := by { first | omega | (simp only [ej_]; omega) | (simp; done) | (simp; omega) }
 refine rGz [(1, xi 2), (2, .y (.one (sv EN b nil cc m))), (3, yp n1), (6, yp n2), (10, .y (.one (cv113)))] hs116 (zA 4 (qL 23 4 (.one (sv EN false u2 v2 l2)) (On.at hs7 0 rfl)) (zL 5 ho115)) fun H117 hs118 => ?_
 refine wS ?_
 refine rs0 [(1, xi 2), (2, .y (.one (sv EN b nil cc m))), (3, yp n1), (6, yp n2), (10, .y (.one (cv113))), (11, xi 0)] ?_
 refine wB ?_
 refine Wp.loop (T := HH × Int × C) (fun t => match t with | (H120, i3, cv) => (((m.length : Int) - i3).toNat : Nat)) (fun t => match t with | (H120, i3, cv) => ([(1, xi 2), (2, .y (.one (sv EN b nil cc m))), (3, yp n1), (6, yp n2), (10, .y (.one (cv))), (11, xi i3)] : Env)) (fun t => match t with | (H120, i3, cv) => (H120 : HH))
   (fun t => match t with | (H120, i3, cv) => (On [pts n1 (.obj (wC rn rc u0 v0 u1 v1 u2 v2 S hand l0 l1 l2)), pts n2 (.obj [nilC, vi 0, nilC, nilC, nilC]), itemsP EN cv (l2 ++ pin (m.take (i3 : Int).toNat))] H120 ∧ (0 ≤ i3) ∧ (i3 ≤ (m.length : Int)) ∧ (((l2 ++ pin (m.take (i3 : Int).toNat)).length : Int) = l2.length + i3) : Prop)) (H117, 0, cv113) (by kernel_rfl) (⟨(On.pick [0, 1, 2] [] (by kernel_rfl) (On.mono (A' := itemsP EN cv113 (l2 ++ pin (m.take (0 : Int).toNat))) 2 rfl (fun _ x => by rw [← (show l2 = (l2 ++ pin (m.take (0 : Int).toNat)) from (by simp))]; exact x) hs118)), by omega, by omega, by simp⟩) ?_
 rintro ⟨H120, i3, cv⟩ ⟨hs121, q1, q2, q3⟩
 show Wp _ _ _ _ [(1, xi 2), (2, .y (.one (sv EN b nil cc m))), (3, yp n1), (6, yp n2), (10, .y (.one (cv))), (11, xi i3)] H120 _
 refine wS ?_
 by_cases c122 : (i3 : Int) < (m.length : Int)
 ·
  refine rSz [(1, xi 2), (2, .y (.one (sv EN b nil cc m))), (3, yp n1), (6, yp n2), (10, .y (.one (cv))), (11, xi i3), (66, xb true)] H120 (zL 3 (qlssT H120 i3 (m.length : Int))) ?_
  refine wTk ?_
  refine wS (wB ?_)
  obtain ⟨x123, hx123⟩ : ∃ x, m[(i3 : Int).toNat]? = some x := get_of (by omega)
  obtain ⟨cv124, H125, ho126, hs127⟩ := or_append_items (P := pg) (A := an) (s := EN) (t := 23) (u := 23) (el := 40) (by_ := 24) (z := [vi 0, vi 0, vb false]) (ty := 0) (y := .sl false false true [vi x123.1.1, vi x123.1.2.1, vb true] 1) (lm := ([(x123.1, (true, ()))])) (m := 1) hs121 2 rfl ((slCells_slO (H := H120) (s := EN) (b := false) (nil := false) (capd := true) (l := [(x123.1, (true, ()))]) (n := 1) (by first | rfl | omega | (simp only [ek_]; omega) | (simp; done) | (simp; omega)))) (by kernel_rfl) (by kernel_rfl) (by kernel_rfl) (by kernel_rfl) (by kernel_rfl) (by kernel_rfl) (by kernel_rfl) (by first | rfl | omega | (simp only [ek_]; omega) | (simp; done) | (simp; omega)) (by omega) (by omega)
  have hs127l : (((l2 ++ pin (m.take (i3 : Int).toNat)) ++ ([(x123.1, (true, ()))])).length : Int) = (((l2 ++ pin (m.take (i3 : Int).toNat)).length : Int) + 1) := by { first | omega | (simp only [ej_]; omega) | (simp; done) | (simp; omega) }
  refine rHz [(1, xi 2), (2, .y (.one (sv EN b nil cc m))), (3, yp n1), (6, yp n2), (10, .y (.one (cv124))), (11, xi i3)] hs127 (zA 3 (Jb (H := H120) (s := EN) (b := b) (nil := nil) (capd := cc) (t := 23) (el := 40) (i := i3) Try.underlying23 (by kernel_rfl) (by kernel_rfl) (by omega) hx123) (zL 8 ho126)) fun H128 hs129 => ?_
  refine wK ?_
  refine rRz [(1, xi 2), (2, .y (.one (sv EN b nil cc m))), (3, yp n1), (6, yp n2), (10, .y (.one (cv124))), (11, xi (i3 + 1))] H128 (zL 1 (qoAdd H128 i3 1 (i3 + 1))) ?_
  exact ⟨(H128, (i3 + 1), cv124), by kernel_rfl, (⟨(On.pick [0, 1, 2] [] (by kernel_rfl) (On.mono (A' := itemsP EN cv124 (l2 ++ pin (m.take ((i3 + 1) : Int).toNat))) 2 rfl (fun _ x => by rw [← (show ((l2 ++ pin (m.take (i3 : Int).toNat)) ++ ([(x123.1, (true, ()))])) = (l2 ++ pin (m.take ((i3 + 1) : Int).toNat)) from (pin_snoc q1 hx123))]; exact x) hs129)), by omega, by omega, by simp only [ej_, eo_, eh_]; omega⟩), (by show (_ : Nat) < _; simp only []; omega)⟩
 refine rSz [(1, xi 2), (2, .y (.one (sv EN b nil cc m))), (3, yp n1), (6, yp n2), (10, .y (.one (cv))), (11, xi i3), (66, xb false)] H120 (zL 3 (qlssF H120 i3 (m.length : Int))) ?_
 refine wFa ?_
 refine wX ?_
 refine Eq.mpr (if_pos rfl) ?_
 have hv130 : C.live cv = true := items_live hs121 2 rfl
 refine rGz [(3, yp n1), (6, yp n2)] (On.put (.obj [sv NI false rn rc S, vi hand, sv EN false u0 v0 l0, sv EN false u1 v1 l1, cv]) hs121 0 rfl) (zL 4 (Jd (H := H120) (t := 23) (ty := 0) (id := n1) (off := 4) (cs := (wC rn rc u0 v0 u1 v1 u2 v2 S hand l0 l1 l2)) (cs' := [sv NI false rn rc S, vi hand, sv EN false u0 v0 l0, sv EN false u1 v1 l1, cv]) (v := .one (cv)) (On.at hs121 0 rfl) (by kernel_rfl) (live_cons hv130 live_nil) (by kernel_rfl) (by kernel_rfl))) fun H131 hs132 => ?_
 refine rGz [(6, yp n2), (7, xi 0)] (On.put (.obj [sv NI false rn rc S, vi hand, sv EN false u0 v0 l0, sv EN false u1 v1 l1, cv]) hs132 1 rfl) (zA 0 (qA 31 (On.at hs132 0 rfl)) (zL 1 (Jd (H := H131) (t := 31) (ty := 0) (id := n2) (off := 0) (cs := [nilC, vi 0, nilC, nilC, nilC]) (cs' := [sv NI false rn rc S, vi hand, sv EN false u0 v0 l0, sv EN false u1 v1 l1, cv]) (v := .agg [sv NI false rn rc S, vi hand, sv EN false u0 v0 l0, sv EN false u1 v1 l1, cv]) (On.at hs132 1 rfl) (by kernel_rfl) (live_cons rfl (live_cons rfl (live_cons rfl (live_cons rfl (live_cons hv130 live_nil))))) (by kernel_rfl) (by kernel_rfl)))) fun H133 hs134 => ?_
 refine wE ?_
 refine ⟨Or.inr rfl, [.agg [sv NI false rn rc S, vi hand, sv EN false u0 v0 l0, sv EN false u1 v1 l1, cv], .one (vi 0)], (rC (On.at hs134 1 rfl)), ?_⟩
 obtain ⟨fn135, fp136, hf137⟩ := items_back hs134 2 rfl
 exact .inr (.inr (.inr (.inr (.inr (.inr (⟨(⟨by rw [take_all (show (m.length : Int) ≤ i by omega)] at g3; exact g3, by rw [take_all (show (m.length : Int) ≤ i by omega)] at g4; exact g4, by rw [take_all (show (m.length : Int) ≤ i by omega)] at g5; exact g5, by rw [take_all (show (m.length : Int) ≤ i by omega)] at g6; exact g6⟩ : JoinOk m l0 l1 l2), rfl, by omega, fn135, fp136, (by have e9 : (l2 ++ pin (m.take (i3 : Int).toNat)) = (l2 ++ pin m) := (by rw [take_all (show (m.length : Int) ≤ i3 by omega)]); rw [← e9]; exact (back_cons (back_agg (mapM_cons' (by kernel_rfl) (mapM_cons' (by kernel_rfl) (mapM_cons' (by kernel_rfl) (mapM_cons' (by kernel_rfl) (mapM_cons' hf137 mapM_nil')))))) (back_cons (by kernel_rfl) rfl)))⟩))))))
end Go.Proofs.Ytjdnhbnpdbpgbaa
