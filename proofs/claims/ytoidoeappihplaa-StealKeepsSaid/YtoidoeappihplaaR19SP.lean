/-
  Steal: who stands pinned; counts; the plain law of StealKeeps. (Printed by sx/r19s.py.)
-/
import Derived.Test.YtoidoeappihplaaR19SN
import Derived.Test.YtoidoeappihplaaR19SJ
import Derived.Test.YtoidoeappihplaaR19SL
namespace Go.Proofs.Ytoidoeappihplaa
open Go.Lg
set_option linter.unusedVariables false
set_option maxRecDepth 100000
set_option maxHeartbeats 8000000
set_option linter.unusedSimpArgs false
theorem fn10 (b nil capd : Bool) (l : List EN.T) (hl : (l.length : Int) ≤ 4611686018427387904) : PureC pg an 10 [.one (sv EN b nil capd l)] [.one (vb (ahead l))] := by
 refine Runs.of (fn := Try.f10) Try.func10 rfl (by kernel_rfl) [(0, .y (.one (sv EN b nil capd l)))] (by kernel_rfl) ?_
 refine rS0 [(0, .y (.one (sv EN b nil capd l)))] (by kernel_rfl) (by kernel_rfl) ?_
 refine Wp.seq ?_
 refine rS0 [(0, .y (.one (sv EN b nil capd l))), (3, xi 1)] (by kernel_rfl) (by kernel_rfl) ?_
 refine Wp.block ?_
 refine Wp.loop (T := Int) (fun (t : Int) => let i := t; (((l.length : Int) - i).toNat : Nat)) (fun (t : Int) => let i := t; ([(0, .y (.one (sv EN b nil capd l))), (3, xi i)] : Env)) (fun (t : Int) => let i := t; ([] : Go.Lg.Heap))
   (fun (t : Int) => let i := t; (1 ≤ i ∧ ahead l = ahead (l.drop (i - 1).toNat) : Prop)) 1 (by kernel_rfl) (by exact ⟨by omega, by simp⟩) ?_
 rintro i ⟨h1, h3⟩
 show Wp _ _ _ _ [(0, .y (.one (sv EN b nil capd l))), (3, xi i)] [] _
 refine Wp.seq ?_
 by_cases c1 : (i : Int) < (l.length : Int)
 ·
  refine rSq [(3, xb true, [])] [(0, .y (.one (sv EN b nil capd l))), (3, xi i), (7, xb true)] []
    (cast (Jai (Ji (H := []) (t := 3) (u := 3) (a := i) (b := (l.length : Int)) (by omega)) trivial) (by kernel_rfl)) (by kernel_rfl) ?_
  refine Wp.condT (by kernel_rfl) (Wp.skip ?_)
  refine Wp.seq (Wp.block ?_)
  obtain ⟨x2, hx2⟩ : ∃ x, l[(i : Int).toNat]? = some x := get_of (by omega)
  rcases Bool.eq_false_or_eq_true (x2.2.1) with c3 | c3
  ·
   obtain ⟨x4, hx4⟩ : ∃ x, l[((i - 1) : Int).toNat]? = some x := get_of (by omega)
   rcases Bool.eq_false_or_eq_true (x4.2.1) with c5 | c5
   ·
    refine rSq [(2, .y (.one (.rd ([vi x2.1.1, vi x2.1.2.1, vb x2.2.1] ++ (l.drop ((i : Int).toNat + 1)).flatMap (enc EN)))), []), (4, xb true, []), (8, xi (i - 1), []), (9, .y (.one (.rd ([vi x4.1.1, vi x4.1.2.1, vb x4.2.1] ++ (l.drop (((i - 1) : Int).toNat + 1)).flatMap (enc EN)))), []), (11, xb true, [])] [(0, .y (.one (sv EN b nil capd l))), (3, xi i), (23, xb false)] []
      (cast (Jai (Jd (H := []) (s := EN) (b := b) (nil := nil) (capd := capd) (t := 22) (el := 35) (i := i) Try.underlying22 (by kernel_rfl) (by kernel_rfl) (by omega) hx2) (Jai (Jh (vals := [.y (.one (.rd ([vb x2.2.1] ++ (l.drop ((i : Int).toNat + 1)).flatMap (enc EN))))]) (H := []) (op := .load 4 (.tmp 0)) (ty := 0) (r := xb x2.2.1) (v := xb true) (by kernel_rfl) (congrArg (fun z => xb z) (c3))) (Jai (Jt (H := []) (t := 3) (u := 3) (a := i) (b := 1) (c := (i - 1)) (by omega)) (Jai (Jd (H := []) (s := EN) (b := b) (nil := nil) (capd := capd) (t := 22) (el := 35) (i := (i - 1)) Try.underlying22 (by kernel_rfl) (by kernel_rfl) (by omega) hx4) (Jai (Jh (vals := [.y (.one (.rd ([vb x4.2.1] ++ (l.drop (((i - 1) : Int).toNat + 1)).flatMap (enc EN))))]) (H := []) (op := .load 4 (.tmp 0)) (ty := 0) (r := xb x4.2.1) (v := xb true) (by kernel_rfl) (congrArg (fun z => xb z) (c5))) trivial))))) (by kernel_rfl)) (by kernel_rfl) ?_
    refine Wp.condF (by kernel_rfl) (Wp.skip ?_)
    refine Wp.region [(1, xi (i + 1), [])] [(0, .y (.one (sv EN b nil capd l))), (3, xi (i + 1))] []
      (cast (Jai (Jk (H := []) (t := 3) (u := 3) (a := i) (b := 1) (c := (i + 1)) (by omega)) trivial) (by kernel_rfl)) (by kernel_rfl) ?_
    exact ⟨(i + 1), by kernel_rfl, (by exact ⟨by omega, by have := ahead_drop (i := i) (by omega) hx4 hx2; rw [show i + 1 - 1 = i by omega, h3, this]; simp [c5, c3]⟩), (by show (_ : Nat) < _; simp only []; omega)⟩
   ·
    refine rSq [(2, .y (.one (.rd ([vi x2.1.1, vi x2.1.2.1, vb x2.2.1] ++ (l.drop ((i : Int).toNat + 1)).flatMap (enc EN)))), []), (4, xb true, []), (8, xi (i - 1), []), (9, .y (.one (.rd ([vi x4.1.1, vi x4.1.2.1, vb x4.2.1] ++ (l.drop (((i - 1) : Int).toNat + 1)).flatMap (enc EN)))), []), (11, xb false, [])] [(0, .y (.one (sv EN b nil capd l))), (3, xi i), (23, xb true)] []
      (cast (Jai (Jd (H := []) (s := EN) (b := b) (nil := nil) (capd := capd) (t := 22) (el := 35) (i := i) Try.underlying22 (by kernel_rfl) (by kernel_rfl) (by omega) hx2) (Jai (Jh (vals := [.y (.one (.rd ([vb x2.2.1] ++ (l.drop ((i : Int).toNat + 1)).flatMap (enc EN))))]) (H := []) (op := .load 4 (.tmp 0)) (ty := 0) (r := xb x2.2.1) (v := xb true) (by kernel_rfl) (congrArg (fun z => xb z) (c3))) (Jai (Jt (H := []) (t := 3) (u := 3) (a := i) (b := 1) (c := (i - 1)) (by omega)) (Jai (Jd (H := []) (s := EN) (b := b) (nil := nil) (capd := capd) (t := 22) (el := 35) (i := (i - 1)) Try.underlying22 (by kernel_rfl) (by kernel_rfl) (by omega) hx4) (Jai (Jh (vals := [.y (.one (.rd ([vb x4.2.1] ++ (l.drop (((i - 1) : Int).toNat + 1)).flatMap (enc EN))))]) (H := []) (op := .load 4 (.tmp 0)) (ty := 0) (r := xb x4.2.1) (v := xb false) (by kernel_rfl) (congrArg (fun z => xb z) (c5))) trivial))))) (by kernel_rfl)) (by kernel_rfl) ?_
    refine Wp.condT (by kernel_rfl) ?_
    refine rS0 [(2, xb false)] (by kernel_rfl) (by kernel_rfl) ?_
    refine Wp.ret ?_
    exact ⟨Or.inr rfl, [.one (vb false)], by kernel_rfl, (congrArg (fun z => some [Y.one (vb z)]) (show false = ahead l from by have := ahead_drop (i := i) (by omega) hx4 hx2; rw [h3, this]; simp [c5, c3]))⟩
  ·
   refine rSq [(2, .y (.one (.rd ([vi x2.1.1, vi x2.1.2.1, vb x2.2.1] ++ (l.drop ((i : Int).toNat + 1)).flatMap (enc EN)))), []), (4, xb false, [])] [(0, .y (.one (sv EN b nil capd l))), (3, xi i), (23, xb false)] []
     (cast (Jai (Jd (H := []) (s := EN) (b := b) (nil := nil) (capd := capd) (t := 22) (el := 35) (i := i) Try.underlying22 (by kernel_rfl) (by kernel_rfl) (by omega) hx2) (Jai (Jh (vals := [.y (.one (.rd ([vb x2.2.1] ++ (l.drop ((i : Int).toNat + 1)).flatMap (enc EN))))]) (H := []) (op := .load 4 (.tmp 0)) (ty := 0) (r := xb x2.2.1) (v := xb false) (by kernel_rfl) (congrArg (fun z => xb z) (c3))) trivial)) (by kernel_rfl)) (by kernel_rfl) ?_
   refine Wp.condF (by kernel_rfl) (Wp.skip ?_)
   refine Wp.region [(1, xi (i + 1), [])] [(0, .y (.one (sv EN b nil capd l))), (3, xi (i + 1))] []
     (cast (Jai (Jk (H := []) (t := 3) (u := 3) (a := i) (b := 1) (c := (i + 1)) (by omega)) trivial) (by kernel_rfl)) (by kernel_rfl) ?_
   exact ⟨(i + 1), by kernel_rfl, (by exact ⟨by omega, by have hx := get_of (l := l) (i := (i - 1).toNat) (by omega); obtain ⟨x, hx⟩ := hx; have := ahead_drop (i := i) (by omega) hx hx2; rw [show i + 1 - 1 = i by omega, h3, this]; simp [c3]⟩), (by show (_ : Nat) < _; simp only []; omega)⟩
 ·
  refine rSq [(3, xb false, [])] [(0, .y (.one (sv EN b nil capd l))), (3, xi i), (7, xb false)] []
    (cast (Jai (Jf (H := []) (t := 3) (u := 3) (a := i) (b := (l.length : Int)) (by omega)) trivial) (by kernel_rfl)) (by kernel_rfl) ?_
  refine Wp.condF (by kernel_rfl) ?_
  refine Wp.exit ?_
  refine Eq.mpr (if_pos rfl) ?_
  refine rS0 [(2, xb true)] (by kernel_rfl) (by kernel_rfl) ?_
  refine Wp.ret ?_
  exact ⟨Or.inr rfl, [.one (vb true)], by kernel_rfl, (congrArg (fun z => some [Y.one (vb z)]) (show true = ahead l from by rw [h3]; exact (ahead_end (by omega) (by omega)).symm))⟩
theorem ahead_cons {x y : EN.T} {r : List EN.T} : ahead (x :: y :: r) = if y.2.1 && !x.2.1 then false else ahead (y :: r) := rfl
theorem ahead_take : ∀ (l : List EN.T) (n : Nat), ahead l = true → ahead (l.take n) = true := by
  intro l
  induction l with
  | nil => intro n _; simp [ahead]
  | cons x r ih =>
    intro n h
    match n, r, ih, h with
    | 0, _, _, _ => rfl
    | 1, _, _, _ => rfl
    | n + 2, [], _, _ => rfl
    | n + 2, y :: r, ih, h =>
      rw [ahead_cons] at h
      show ahead (x :: y :: r.take n) = true
      rw [ahead_cons]
      split at h
      · cases h
      · rename_i hh
        rw [if_neg hh]
        exact ih (n + 1) h
theorem ahead_pin : ∀ l : List EN.T, ahead (pin l) = true := by
  intro l
  induction l with
  | nil => rfl
  | cons x r ih =>
    cases r with
    | nil => rfl
    | cons y r =>
      show ahead ((x.1, (true, ())) :: (y.1, (true, ())) :: pin r) = true
      rw [ahead_cons]
      exact ih
theorem ahead_nil {l : List EN.T} (h : l.length = 0) : ahead l = true := by
  rw [List.eq_nil_of_length_eq_zero h]; rfl
theorem ahead_join {t l : List EN.T} (h : t.length = 0) : ahead (t ++ pin l) = true := by
  rw [List.eq_nil_of_length_eq_zero h]; exact ahead_pin l
theorem tail_at : ∀ (r : List EN.T) (j : Nat) (x : EN.T), j < tail r → r[j]? = some x → x.2.1 = false := by
  intro r
  induction r with
  | nil => intro j x h _; simp [tail] at h
  | cons y r ih =>
    intro j x h hx
    unfold tail at h
    split at h
    · omega
    · rename_i hy
      cases j with
      | zero => simp at hx; subst hx; simpa using hy
      | succ j => exact ih j x (by omega) (by simpa using hx)
theorem free_at {l : List EN.T} {n i : Int} {x : EN.T} (h1 : 0 < n) (h2 : n ≤ half l) (h0 : 0 ≤ i) (hi : (l.length : Int) - n ≤ i) (hx : l[i.toNat]? = some x) : x.2.1 = false := by
  have hh := half_is l
  obtain ⟨hl, _⟩ := List.getElem?_eq_some_iff.1 hx
  refine tail_at l.reverse (l.length - 1 - i.toNat) x ?_ ?_
  · show _ < free l
    omega
  · rw [List.getElem?_reverse (by omega), show l.length - 1 - (l.length - 1 - i.toNat) = i.toNat by omega]
    exact hx
theorem stolen_at {t v : List EN.T} {n i : Int} {x : EN.T} (ht : t.length = 0) (h1 : 0 < n) (h2 : n ≤ (v.length : Int)) (h0 : 0 ≤ i) (hi : (v.length : Int) - n ≤ i) (hx : v[i.toNat]? = some x) {j : Int} (hj : j = i - ((v.length : Int) - n)) :
    (t ++ pin (v.drop ((v.length : Int) - n).toNat))[j.toNat]? = some (x.1, (true, ())) := by
  subst hj
  rw [List.eq_nil_of_length_eq_zero ht, List.nil_append]
  show (List.map _ _)[_]? = _
  rw [List.getElem?_map, List.getElem?_drop, show ((v.length : Int) - n).toNat + (i - ((v.length : Int) - n)).toNat = i.toNat by omega, hx]
  rfl
theorem kept_at {v : List EN.T} {n i : Int} {x : EN.T} (h0 : 0 ≤ i) (hi : i < (v.length : Int) - n) (hx : v[i.toNat]? = some x) : (v.take ((v.length : Int) - n).toNat)[i.toNat]? = some x := by
  rw [List.getElem?_take, if_pos (by omega)]; exact hx
theorem gone_take {v : List EN.T} {n i : Int} {x : EN.T} (h : (pids v).Nodup) (h0 : 0 ≤ i) (hi : (v.length : Int) - n ≤ i) (hx : v[i.toNat]? = some x) : x.1 ∉ pids (v.take ((v.length : Int) - n).toNat) := by
  intro hp
  obtain ⟨y, hy, e⟩ := List.mem_map.1 hp
  obtain ⟨j, hj, rfl⟩ := List.mem_take_iff_getElem.1 hy
  obtain ⟨hl, rfl⟩ := List.getElem?_eq_some_iff.1 hx
  have := List.pairwise_iff_getElem.1 h j i.toNat (by simp; omega) (by simpa using hl) (by omega)
  simp only [List.getElem_map] at this
  exact this e
theorem gone0 {v0 v1 v2 : List EN.T} {n i : Int} {x : EN.T} (h : LoadOk v0 v1 v2) (h0 : 0 ≤ i) (hi : (v0.length : Int) - n ≤ i) (hx : v0[i.toNat]? = some x) : posI x.1 (v0.take ((v0.length : Int) - n).toNat) < 0 ∧ posI x.1 v1 < 0 ∧ posI x.1 v2 < 0 := by
  have h' : (pids v0 ++ (pids v1 ++ pids v2)).Nodup := h
  rw [List.nodup_append] at h'
  have hm : x.1 ∈ pids v0 := List.mem_map.2 ⟨x, List.mem_of_getElem? hx, rfl⟩
  refine ⟨posI_neg.2 fun hp => ?_, posI_neg.2 fun hp => h'.2.2 _ hm _ (List.mem_append_left _ hp) rfl, posI_neg.2 fun hp => h'.2.2 _ hm _ (List.mem_append_right _ hp) rfl⟩
  exact gone_take h'.1 h0 hi hx hp
theorem gone1 {v0 v1 v2 : List EN.T} {n i : Int} {x : EN.T} (h : LoadOk v0 v1 v2) (h0 : 0 ≤ i) (hi : (v1.length : Int) - n ≤ i) (hx : v1[i.toNat]? = some x) : posI x.1 v0 < 0 ∧ posI x.1 (v1.take ((v1.length : Int) - n).toNat) < 0 ∧ posI x.1 v2 < 0 := by
  have h' : (pids v0 ++ (pids v1 ++ pids v2)).Nodup := h
  rw [List.nodup_append] at h'
  have h2 := List.nodup_append.1 h'.2.1
  have hm : x.1 ∈ pids v1 := List.mem_map.2 ⟨x, List.mem_of_getElem? hx, rfl⟩
  exact ⟨posI_neg.2 fun hp => h'.2.2 _ hp _ (List.mem_append_left _ hm) rfl, posI_neg.2 (gone_take h2.1 h0 hi hx), posI_neg.2 fun hp => h2.2.2 _ hm _ hp rfl⟩
theorem gone2 {v0 v1 v2 : List EN.T} {n i : Int} {x : EN.T} (h : LoadOk v0 v1 v2) (h0 : 0 ≤ i) (hi : (v2.length : Int) - n ≤ i) (hx : v2[i.toNat]? = some x) : posI x.1 v0 < 0 ∧ posI x.1 v1 < 0 ∧ posI x.1 (v2.take ((v2.length : Int) - n).toNat) < 0 := by
  have h' : (pids v0 ++ (pids v1 ++ pids v2)).Nodup := h
  rw [List.nodup_append] at h'
  have h2 := List.nodup_append.1 h'.2.1
  have hm : x.1 ∈ pids v2 := List.mem_map.2 ⟨x, List.mem_of_getElem? hx, rfl⟩
  exact ⟨posI_neg.2 fun hp => h'.2.2 _ hp _ (List.mem_append_right _ hm) rfl, posI_neg.2 fun hp => h2.2.2 _ hp _ hm rfl, posI_neg.2 (gone_take h2.2.1 h0 hi hx)⟩
end Go.Proofs.Ytoidoeappihplaa
