/- Lemmas. -/
import Derived.Test.YtoidoeappihplaaR19SA
namespace Go.Proofs.Ytoidoeappihplaa
open Go.Lg
set_option linter.unusedVariables false
set_option maxRecDepth 100000
set_option maxHeartbeats 8000000
set_option linter.unusedSimpArgs false
def inW (c : Int) : Bool := decide (0 ≤ c ∧ c < 3)
def okW (l : List Int) : Bool := decide (l.length ≤ 64) && (l.all inW && (l.contains 0 && (l.contains 1 && l.contains 2)))
theorem take_snoc {l : List Int} {i : Int} {x : Int} (h : 0 ≤ i) (hx : l[i.toNat]? = some x) : l.take (i + 1).toNat = l.take i.toNat ++ [x] := by
  rw [show (i + 1).toNat = i.toNat + 1 by omega, List.take_add_one, hx]; rfl
theorem not_ok {l : List Int} {i x : Int} (hx : l[i.toNat]? = some x) (h : inW x = false) : okW l = false := by
  have : l.all inW = false := by
    rw [List.all_eq_false]
    exact ⟨x, List.mem_of_getElem? hx, by simp [h]⟩
  simp [okW, this]
theorem all_snoc {l : List Int} {x : Int} {t : Bool} {c : Int} (h : t = l.contains c) (b : Bool) (hb : (x == c) = b) : (t || b) = (l ++ [x]).contains c := by
  subst h; subst hb
  rw [Bool.eq_iff_iff]
  simp only [Bool.or_eq_true, List.contains_iff_mem, beq_iff_eq, List.mem_append, List.mem_singleton]
  constructor
  · rintro (h | h)
    · exact .inl h
    · exact .inr h.symm
  · rintro (h | h)
    · exact .inl h
    · exact .inr h.symm
theorem has_snoc (l : List Int) (x : Int) : true = (l ++ [x]).contains x := by
  rw [eq_comm, List.contains_iff_mem]; simp
def clsW (c : Int) : Bool := inW c
theorem wclass (c : Int) : PureC pg an 50 [.one (vi c)] [.one (vb (inW c))] := by
 refine Runs.of (fn := Try.f50) Try.func50 rfl (by kernel_rfl) [(0, xi c)] (by kernel_rfl) ?_
 refine rS0 [(0, xi c)] (by kernel_rfl) ?_
 by_cases c1 : (0 : Int) ≤ c
 ·
  by_cases c2 : (c : Int) < 3
  ·
   refine rSq [(1, xb true, []), (4, xb true, [])] [(2, xb true)] []
     (cast (Jai (Jw (H := []) (t := 3) (u := 3) (a := c) (b := 0) (by omega)) (JZ (Jh (H := []) (t := 3) (u := 3) (a := c) (b := 3) (by omega)))) (by kernel_rfl)) (by kernel_rfl) ?_
   refine wE ?_
   exact ⟨Or.inr rfl, [.one (vb true)], by kernel_rfl, (congrArg (fun z => some [Y.one (vb z)]) (show true = inW c from by unfold inW; simp; omega))⟩
  ·
   refine rSq [(1, xb true, []), (4, xb false, [])] [(2, xb false)] []
     (cast (Jai (Jw (H := []) (t := 3) (u := 3) (a := c) (b := 0) (by omega)) (JZ (Je (H := []) (t := 3) (u := 3) (a := c) (b := 3) (by omega)))) (by kernel_rfl)) (by kernel_rfl) ?_
   refine wE ?_
   exact ⟨Or.inr rfl, [.one (vb false)], by kernel_rfl, (congrArg (fun z => some [Y.one (vb z)]) (show false = inW c from by unfold inW; simp; omega))⟩
 ·
  refine rSq [(1, xb false, [])] [(2, xb false)] []
    (cast (JZ (Jy (H := []) (t := 3) (u := 3) (a := c) (b := 0) (by omega))) (by kernel_rfl)) (by kernel_rfl) ?_
  refine wE ?_
  exact ⟨Or.inr rfl, [.one (vb false)], by kernel_rfl, (congrArg (fun z => some [Y.one (vb z)]) (show false = inW c from by unfold inW; simp; omega))⟩
theorem ok_of {l : List Int} {t0 t1 t2 : Bool} (h : l.length ≤ 64) (ha : l.all inW = true) (h0 : t0 = l.contains 0) (h1 : t1 = l.contains 1) (h2 : t2 = l.contains 2) : okW l = (t0 && (t1 && t2)) := by
  subst h0; subst h1; subst h2
  simp [okW, ha, h]
theorem wcheck (b nil capd : Bool) (l : List Int) (hl : (l.length : Int) ≤ 4611686018427387904) : PureC pg an 36 [.one (sv NI b nil capd l)] [.one (vi (if okW l then 0 else 20))] := by
 refine Runs.of (fn := Try.f36) Try.func36 rfl (by kernel_rfl) [(0, .y (.one (sv NI b nil capd l)))] (by kernel_rfl) ?_
 refine rS0 [(0, .y (.one (sv NI b nil capd l)))] (by kernel_rfl) ?_
 refine wS ?_
 by_cases c1 : (64 : Int) < (l.length : Int)
 ·
  refine rSq [(2, xb true, [])] [(0, .y (.one (sv NI b nil capd l))), (9, xb true)] []
    (cast (JZ (Jd (H := []) (t := 3) (u := 3) (a := (l.length : Int)) (b := 64) (by omega))) (by kernel_rfl)) (by kernel_rfl) ?_
  refine wTa ?_
  refine rS0 [(2, xi 20)] (by kernel_rfl) ?_
  refine wE ?_
  exact ⟨Or.inr rfl, [.one (vi 20)], by kernel_rfl, (congrArg (fun z => some [Y.one (vi z)]) (show (20 : Int) = (if okW l then 0 else 20) from by rw [show okW l = false from by unfold okW; rw [decide_eq_false (by omega)]; rfl]; rfl))⟩
 ·
  refine rSq [(2, xb false, [])] [(0, .y (.one (sv NI b nil capd l))), (9, xb false)] []
    (cast (JZ (Jk (H := []) (t := 3) (u := 3) (a := (l.length : Int)) (b := 64) (by omega))) (by kernel_rfl)) (by kernel_rfl) ?_
  refine wFk ?_
  refine rSq [] [(0, .y (.one (sv NI b nil capd l))), (3, yp 0)] [.obj [vb false, vb false, vb false]]
    (cast trivial (by kernel_rfl)) (by kernel_rfl) ?_
  refine wS ?_
  refine rSq [] [(3, yp 0), (10, .y (.one (sv NI b nil capd l))), (11, xi (l.length : Int)), (12, xi 0)] [.obj [vb false, vb false, vb false]]
    (cast trivial (by kernel_rfl)) (by kernel_rfl) ?_
  refine wB ?_
  refine Wp.loop (T := Int × Bool × Bool × Bool) (fun t => match t with | (i, p0, p1, p2) => (((l.length : Int) - i).toNat : Nat)) (fun t => match t with | (i, p0, p1, p2) => ([(3, yp 0), (10, .y (.one (sv NI b nil capd l))), (11, xi (l.length : Int)), (12, xi i)] : Env)) (fun t => match t with | (i, p0, p1, p2) => ([.obj [vb p0, vb p1, vb p2]] : HH))
    (fun t => match t with | (i, p0, p1, p2) => (0 ≤ i ∧ i ≤ (l.length : Int) ∧ (l.take i.toNat).all inW = true ∧ p0 = (l.take i.toNat).contains 0 ∧ p1 = (l.take i.toNat).contains 1 ∧ p2 = (l.take i.toNat).contains 2 : Prop)) (0, false, false, false) (by kernel_rfl) (by exact ⟨by omega, by omega, by simp, by simp, by simp, by simp⟩) ?_
  rintro ⟨i, p0, p1, p2⟩ ⟨h1, h2, h3, h4, h5, h6⟩
  show Wp _ _ _ _ [(3, yp 0), (10, .y (.one (sv NI b nil capd l))), (11, xi (l.length : Int)), (12, xi i)] [.obj [vb p0, vb p1, vb p2]] _
  by_cases c2 : (i : Int) < (l.length : Int)
  ·
   refine rSq [(0, xb true, [.obj [vb p0, vb p1, vb p2]])] [(3, yp 0), (10, .y (.one (sv NI b nil capd l))), (11, xi (l.length : Int)), (12, xi i), (13, xb true)] [.obj [vb p0, vb p1, vb p2]]
     (cast (JZ (Jh (H := [.obj [vb p0, vb p1, vb p2]]) (t := 3) (u := 3) (a := i) (b := (l.length : Int)) (by omega))) (by kernel_rfl)) (by kernel_rfl) ?_
   refine wS (wTk ?_)
   refine wS (wB ?_)
   obtain ⟨x3, hx3⟩ : ∃ x, l[(i : Int).toNat]? = some x := get_of (by omega)
   refine rSq [(0, .y (.one (.rd ([vi x3] ++ (l.drop ((i : Int).toNat + 1)).flatMap (enc NI)))), [.obj [vb p0, vb p1, vb p2]])] [(3, yp 0), (5, xi x3), (10, .y (.one (sv NI b nil capd l))), (11, xi (l.length : Int)), (12, xi i)] [.obj [vb p0, vb p1, vb p2]]
     (cast (JZ (Jf (H := [.obj [vb p0, vb p1, vb p2]]) (s := NI) (b := b) (nil := nil) (capd := capd) (t := 36) (el := 3) (i := i) Try.underlying36 (by kernel_rfl) (by kernel_rfl) (by omega) hx3)) (by kernel_rfl)) (by kernel_rfl) ?_
   refine wS ?_
   by_cases c4 : (0 : Int) ≤ x3
   ·
    by_cases c5 : (x3 : Int) < 3
    ·
     refine rSq [(1, xb true, [.obj [vb p0, vb p1, vb p2]])] [(3, yp 0), (5, xi x3), (10, .y (.one (sv NI b nil capd l))), (11, xi (l.length : Int)), (12, xi i), (18, xb false)] [.obj [vb p0, vb p1, vb p2]]
       (cast (JZ (Jo (H := [.obj [vb p0, vb p1, vb p2]]) (g := 50) (x := .one (vi x3)) (res := [.one (vb true)]) (by have := wclass x3; rw [show inW x3 = true from by unfold inW; simp; omega] at this; exact this) (by kernel_rfl) (by kernel_rfl))) (by kernel_rfl)) (by kernel_rfl) ?_
     refine wFk ?_
     rcases (show x3 = 0 ∨ x3 = 1 ∨ x3 = 2 from by omega) with rfl | rfl | rfl
     ·
      refine wR [] [(3, yp 0), (10, .y (.one (sv NI b nil capd l))), (11, xi (l.length : Int)), (12, xi i)] [.obj [vb true, vb p1, vb p2]]
        (cast trivial (by kernel_rfl)) (by kernel_rfl) ?_
      refine wR [(0, xi (i + 1), [.obj [vb true, vb p1, vb p2]])] [(3, yp 0), (10, .y (.one (sv NI b nil capd l))), (11, xi (l.length : Int)), (12, xi (i + 1))] [.obj [vb true, vb p1, vb p2]]
        (cast (JZ (Jj (H := [.obj [vb true, vb p1, vb p2]]) (t := 3) (u := 3) (a := i) (b := 1) (c := (i + 1)) (by omega))) (by kernel_rfl)) (by kernel_rfl) ?_
      exact ⟨((i + 1), true, p1, p2), by kernel_rfl, (by have hs := take_snoc (i := i) (by omega) hx3; exact ⟨by omega, by omega, by rw [hs, List.all_append, h3]; decide, by rw [hs]; exact has_snoc _ _, by rw [hs, ← all_snoc (h5) false (by decide)]; simp, by rw [hs, ← all_snoc (h6) false (by decide)]; simp⟩), (by show (_ : Nat) < _; simp only []; omega)⟩
     ·
      refine wR [] [(3, yp 0), (10, .y (.one (sv NI b nil capd l))), (11, xi (l.length : Int)), (12, xi i)] [.obj [vb p0, vb true, vb p2]]
        (cast trivial (by kernel_rfl)) (by kernel_rfl) ?_
      refine wR [(0, xi (i + 1), [.obj [vb p0, vb true, vb p2]])] [(3, yp 0), (10, .y (.one (sv NI b nil capd l))), (11, xi (l.length : Int)), (12, xi (i + 1))] [.obj [vb p0, vb true, vb p2]]
        (cast (JZ (Jj (H := [.obj [vb p0, vb true, vb p2]]) (t := 3) (u := 3) (a := i) (b := 1) (c := (i + 1)) (by omega))) (by kernel_rfl)) (by kernel_rfl) ?_
      exact ⟨((i + 1), p0, true, p2), by kernel_rfl, (by have hs := take_snoc (i := i) (by omega) hx3; exact ⟨by omega, by omega, by rw [hs, List.all_append, h3]; decide, by rw [hs, ← all_snoc (h4) false (by decide)]; simp, by rw [hs]; exact has_snoc _ _, by rw [hs, ← all_snoc (h6) false (by decide)]; simp⟩), (by show (_ : Nat) < _; simp only []; omega)⟩
     ·
      refine wR [] [(3, yp 0), (10, .y (.one (sv NI b nil capd l))), (11, xi (l.length : Int)), (12, xi i)] [.obj [vb p0, vb p1, vb true]]
        (cast trivial (by kernel_rfl)) (by kernel_rfl) ?_
      refine wR [(0, xi (i + 1), [.obj [vb p0, vb p1, vb true]])] [(3, yp 0), (10, .y (.one (sv NI b nil capd l))), (11, xi (l.length : Int)), (12, xi (i + 1))] [.obj [vb p0, vb p1, vb true]]
        (cast (JZ (Jj (H := [.obj [vb p0, vb p1, vb true]]) (t := 3) (u := 3) (a := i) (b := 1) (c := (i + 1)) (by omega))) (by kernel_rfl)) (by kernel_rfl) ?_
      exact ⟨((i + 1), p0, p1, true), by kernel_rfl, (by have hs := take_snoc (i := i) (by omega) hx3; exact ⟨by omega, by omega, by rw [hs, List.all_append, h3]; decide, by rw [hs, ← all_snoc (h4) false (by decide)]; simp, by rw [hs, ← all_snoc (h5) false (by decide)]; simp, by rw [hs]; exact has_snoc _ _⟩), (by show (_ : Nat) < _; simp only []; omega)⟩
    ·
     refine rSq [(1, xb false, [.obj [vb p0, vb p1, vb p2]])] [(3, yp 0), (5, xi x3), (10, .y (.one (sv NI b nil capd l))), (11, xi (l.length : Int)), (12, xi i), (18, xb true)] [.obj [vb p0, vb p1, vb p2]]
       (cast (JZ (Jo (H := [.obj [vb p0, vb p1, vb p2]]) (g := 50) (x := .one (vi x3)) (res := [.one (vb false)]) (by have := wclass x3; rw [show inW x3 = false from by unfold inW; simp; omega] at this; exact this) (by kernel_rfl) (by kernel_rfl))) (by kernel_rfl)) (by kernel_rfl) ?_
     refine wTa ?_
     refine rSq [] [(2, xi 20)] [.obj [vb p0, vb p1, vb p2]]
       (cast trivial (by kernel_rfl)) (by kernel_rfl) ?_
     refine wE ?_
     exact ⟨Or.inr rfl, [.one (vi 20)], by kernel_rfl, (congrArg (fun z => some [Y.one (vi z)]) (show (20 : Int) = (if okW l then 0 else 20) from by rw [not_ok hx3 (by unfold inW; simp; omega)]; rfl))⟩
   ·
    refine rSq [(1, xb false, [.obj [vb p0, vb p1, vb p2]])] [(3, yp 0), (5, xi x3), (10, .y (.one (sv NI b nil capd l))), (11, xi (l.length : Int)), (12, xi i), (18, xb true)] [.obj [vb p0, vb p1, vb p2]]
      (cast (JZ (Jo (H := [.obj [vb p0, vb p1, vb p2]]) (g := 50) (x := .one (vi x3)) (res := [.one (vb false)]) (by have := wclass x3; rw [show inW x3 = false from by unfold inW; simp; omega] at this; exact this) (by kernel_rfl) (by kernel_rfl))) (by kernel_rfl)) (by kernel_rfl) ?_
    refine wTa ?_
    refine rSq [] [(2, xi 20)] [.obj [vb p0, vb p1, vb p2]]
      (cast trivial (by kernel_rfl)) (by kernel_rfl) ?_
    refine wE ?_
    exact ⟨Or.inr rfl, [.one (vi 20)], by kernel_rfl, (congrArg (fun z => some [Y.one (vi z)]) (show (20 : Int) = (if okW l then 0 else 20) from by rw [not_ok hx3 (by unfold inW; simp; omega)]; rfl))⟩
  ·
   refine rSq [(0, xb false, [.obj [vb p0, vb p1, vb p2]])] [(3, yp 0), (10, .y (.one (sv NI b nil capd l))), (11, xi (l.length : Int)), (12, xi i), (13, xb false)] [.obj [vb p0, vb p1, vb p2]]
     (cast (JZ (Je (H := [.obj [vb p0, vb p1, vb p2]]) (t := 3) (u := 3) (a := i) (b := (l.length : Int)) (by omega))) (by kernel_rfl)) (by kernel_rfl) ?_
   refine wS ?_
   refine wFa ?_
   refine wX ?_
   refine Eq.mpr (if_pos rfl) ?_
   refine wS ?_
   refine rSq [] [(3, yp 0), (22, xi 0)] [.obj [vb p0, vb p1, vb p2]]
     (cast trivial (by kernel_rfl)) (by kernel_rfl) ?_
   refine wB ?_
   refine Wp.loopU [(3, yp 0), (22, xi 0)] (some ([3, 22], false)) 1 (by kernel_rfl) ?_
   refine WpL.step ?_
   refine rSq [] [(3, yp 0), (22, xi 0), (23, xb true)] [.obj [vb p0, vb p1, vb p2]]
     (cast trivial (by kernel_rfl)) (by kernel_rfl) ?_
   refine wS (wTk ?_)
   refine wS (wB ?_)
   refine rSq [] [(3, yp 0), (6, xi 0), (22, xi 0)] [.obj [vb p0, vb p1, vb p2]]
     (cast trivial (by kernel_rfl)) (by kernel_rfl) ?_
   rcases Bool.eq_false_or_eq_true (p0) with c6 | c6
   ·
    refine rSq [(2, xb true, [.obj [vb p0, vb p1, vb p2]])] [(3, yp 0), (22, xi 0), (28, xb false)] [.obj [vb p0, vb p1, vb p2]]
      (cast (JZ (Jl (vals := [yp 0]) (H := [.obj [vb p0, vb p1, vb p2]]) (op := .load 4 (.tmp 0)) (ty := 0) (r := xb p0) (v := xb true) (by kernel_rfl) (congrArg (fun z => xb z) (c6)))) (by kernel_rfl)) (by kernel_rfl) ?_
    refine wFk ?_
    refine wR [] [(3, yp 0), (22, xi 1)] [.obj [vb p0, vb p1, vb p2]]
      (cast trivial (by kernel_rfl)) (by kernel_rfl) ?_
    refine ⟨_, _, rfl, ?_⟩
    refine WpL.step ?_
    refine rSq [] [(3, yp 0), (22, xi 1), (23, xb true)] [.obj [vb p0, vb p1, vb p2]]
      (cast trivial (by kernel_rfl)) (by kernel_rfl) ?_
    refine wS (wTk ?_)
    refine wS (wB ?_)
    refine rSq [] [(3, yp 0), (6, xi 1), (22, xi 1)] [.obj [vb p0, vb p1, vb p2]]
      (cast trivial (by kernel_rfl)) (by kernel_rfl) ?_
    rcases Bool.eq_false_or_eq_true (p1) with c7 | c7
    ·
     refine rSq [(2, xb true, [.obj [vb p0, vb p1, vb p2]])] [(3, yp 0), (22, xi 1), (28, xb false)] [.obj [vb p0, vb p1, vb p2]]
       (cast (JZ (Jl (vals := [.y (.one (.ptr 0 1))]) (H := [.obj [vb p0, vb p1, vb p2]]) (op := .load 4 (.tmp 0)) (ty := 0) (r := xb p1) (v := xb true) (by kernel_rfl) (congrArg (fun z => xb z) (c7)))) (by kernel_rfl)) (by kernel_rfl) ?_
     refine wFk ?_
     refine wR [] [(3, yp 0), (22, xi 2)] [.obj [vb p0, vb p1, vb p2]]
       (cast trivial (by kernel_rfl)) (by kernel_rfl) ?_
     refine ⟨_, _, rfl, ?_⟩
     refine WpL.step ?_
     refine rSq [] [(3, yp 0), (22, xi 2), (23, xb true)] [.obj [vb p0, vb p1, vb p2]]
       (cast trivial (by kernel_rfl)) (by kernel_rfl) ?_
     refine wS (wTk ?_)
     refine wS (wB ?_)
     refine rSq [] [(3, yp 0), (6, xi 2), (22, xi 2)] [.obj [vb p0, vb p1, vb p2]]
       (cast trivial (by kernel_rfl)) (by kernel_rfl) ?_
     rcases Bool.eq_false_or_eq_true (p2) with c8 | c8
     ·
      refine rSq [(2, xb true, [.obj [vb p0, vb p1, vb p2]])] [(3, yp 0), (22, xi 2), (28, xb false)] [.obj [vb p0, vb p1, vb p2]]
        (cast (JZ (Jl (vals := [.y (.one (.ptr 0 2))]) (H := [.obj [vb p0, vb p1, vb p2]]) (op := .load 4 (.tmp 0)) (ty := 0) (r := xb p2) (v := xb true) (by kernel_rfl) (congrArg (fun z => xb z) (c8)))) (by kernel_rfl)) (by kernel_rfl) ?_
      refine wFk ?_
      refine wR [] [(3, yp 0), (22, xi 3)] [.obj [vb p0, vb p1, vb p2]]
        (cast trivial (by kernel_rfl)) (by kernel_rfl) ?_
      refine ⟨_, _, rfl, ?_⟩
      refine WpL.step ?_
      refine rSq [] [(3, yp 0), (22, xi 3), (23, xb false)] [.obj [vb p0, vb p1, vb p2]]
        (cast trivial (by kernel_rfl)) (by kernel_rfl) ?_
      refine wS ?_
      refine wFa ?_
      refine wX ?_
      refine Eq.mpr (if_pos rfl) ?_
      refine rSq [] [(2, xi 0)] [.obj [vb p0, vb p1, vb p2]]
        (cast trivial (by kernel_rfl)) (by kernel_rfl) ?_
      refine wE ?_
      exact ⟨Or.inr rfl, [.one (vi 0)], by kernel_rfl, (congrArg (fun z => some [Y.one (vi z)]) (show (0 : Int) = (if okW l then 0 else 20) from by rw [show i.toNat = l.length by omega, List.take_length] at h3 h4 h5 h6; rw [ok_of (by omega) h3 h4 h5 h6]; simp [c6, c7, c8]))⟩
     ·
      refine rSq [(2, xb false, [.obj [vb p0, vb p1, vb p2]])] [(3, yp 0), (22, xi 2), (28, xb true)] [.obj [vb p0, vb p1, vb p2]]
        (cast (JZ (Jl (vals := [.y (.one (.ptr 0 2))]) (H := [.obj [vb p0, vb p1, vb p2]]) (op := .load 4 (.tmp 0)) (ty := 0) (r := xb p2) (v := xb false) (by kernel_rfl) (congrArg (fun z => xb z) (c8)))) (by kernel_rfl)) (by kernel_rfl) ?_
      refine wTa ?_
      refine rSq [] [(2, xi 20)] [.obj [vb p0, vb p1, vb p2]]
        (cast trivial (by kernel_rfl)) (by kernel_rfl) ?_
      refine wE ?_
      exact ⟨Or.inr rfl, [.one (vi 20)], by kernel_rfl, (congrArg (fun z => some [Y.one (vi z)]) (show (20 : Int) = (if okW l then 0 else 20) from by rw [show i.toNat = l.length by omega, List.take_length] at h3 h4 h5 h6; rw [ok_of (by omega) h3 h4 h5 h6]; simp [c6, c7, c8]))⟩
    ·
     refine rSq [(2, xb false, [.obj [vb p0, vb p1, vb p2]])] [(3, yp 0), (22, xi 1), (28, xb true)] [.obj [vb p0, vb p1, vb p2]]
       (cast (JZ (Jl (vals := [.y (.one (.ptr 0 1))]) (H := [.obj [vb p0, vb p1, vb p2]]) (op := .load 4 (.tmp 0)) (ty := 0) (r := xb p1) (v := xb false) (by kernel_rfl) (congrArg (fun z => xb z) (c7)))) (by kernel_rfl)) (by kernel_rfl) ?_
     refine wTa ?_
     refine rSq [] [(2, xi 20)] [.obj [vb p0, vb p1, vb p2]]
       (cast trivial (by kernel_rfl)) (by kernel_rfl) ?_
     refine wE ?_
     exact ⟨Or.inr rfl, [.one (vi 20)], by kernel_rfl, (congrArg (fun z => some [Y.one (vi z)]) (show (20 : Int) = (if okW l then 0 else 20) from by rw [show i.toNat = l.length by omega, List.take_length] at h3 h4 h5 h6; rw [ok_of (by omega) h3 h4 h5 h6]; simp [c6, c7]))⟩
   ·
    refine rSq [(2, xb false, [.obj [vb p0, vb p1, vb p2]])] [(3, yp 0), (22, xi 0), (28, xb true)] [.obj [vb p0, vb p1, vb p2]]
      (cast (JZ (Jl (vals := [yp 0]) (H := [.obj [vb p0, vb p1, vb p2]]) (op := .load 4 (.tmp 0)) (ty := 0) (r := xb p0) (v := xb false) (by kernel_rfl) (congrArg (fun z => xb z) (c6)))) (by kernel_rfl)) (by kernel_rfl) ?_
    refine wTa ?_
    refine rSq [] [(2, xi 20)] [.obj [vb p0, vb p1, vb p2]]
      (cast trivial (by kernel_rfl)) (by kernel_rfl) ?_
    refine wE ?_
    exact ⟨Or.inr rfl, [.one (vi 20)], by kernel_rfl, (congrArg (fun z => some [Y.one (vi z)]) (show (20 : Int) = (if okW l then 0 else 20) from by rw [show i.toNat = l.length by omega, List.take_length] at h3 h4 h5 h6; rw [ok_of (by omega) h3 h4 h5 h6]; simp [c6]))⟩
theorem rcheck (b nil capd : Bool) (l : List Int) (hl : (l.length : Int) ≤ 4611686018427387904) : PureC pg an 52 [.one (sv NI b nil capd l)] [.one (vi (if okW l then 0 else 20))] := by
 refine Runs.of (fn := Try.f52) Try.func52 rfl (by kernel_rfl) [(0, .y (.one (sv NI b nil capd l)))] (by kernel_rfl) ?_
 refine rS0 [(0, .y (.one (sv NI b nil capd l)))] (by kernel_rfl) ?_
 refine wS ?_
 by_cases c1 : (64 : Int) < (l.length : Int)
 ·
  refine rSq [(2, xb true, [])] [(0, .y (.one (sv NI b nil capd l))), (8, xb true)] []
    (cast (JZ (Jd (H := []) (t := 3) (u := 3) (a := (l.length : Int)) (b := 64) (by omega))) (by kernel_rfl)) (by kernel_rfl) ?_
  refine wTa ?_
  refine rS0 [(2, xi 20)] (by kernel_rfl) ?_
  refine wE ?_
  exact ⟨Or.inr rfl, [.one (vi 20)], by kernel_rfl, (congrArg (fun z => some [Y.one (vi z)]) (show (20 : Int) = (if okW l then 0 else 20) from by rw [show okW l = false from by unfold okW; rw [decide_eq_false (by omega)]; rfl]; rfl))⟩
 ·
  refine rSq [(2, xb false, [])] [(0, .y (.one (sv NI b nil capd l))), (8, xb false)] []
    (cast (JZ (Jk (H := []) (t := 3) (u := 3) (a := (l.length : Int)) (b := 64) (by omega))) (by kernel_rfl)) (by kernel_rfl) ?_
  refine wFk ?_
  refine rSq [] [(0, .y (.one (sv NI b nil capd l))), (3, yp 0)] [.obj [vb false, vb false, vb false]]
    (cast trivial (by kernel_rfl)) (by kernel_rfl) ?_
  refine wS ?_
  refine rSq [] [(0, .y (.one (sv NI b nil capd l))), (3, yp 0), (4, xi 0)] [.obj [vb false, vb false, vb false]]
    (cast trivial (by kernel_rfl)) (by kernel_rfl) ?_
  refine wB ?_
  refine Wp.loop (T := Int × Bool × Bool × Bool) (fun t => match t with | (i, p0, p1, p2) => (((l.length : Int) - i).toNat : Nat)) (fun t => match t with | (i, p0, p1, p2) => ([(0, .y (.one (sv NI b nil capd l))), (3, yp 0), (4, xi i)] : Env)) (fun t => match t with | (i, p0, p1, p2) => ([.obj [vb p0, vb p1, vb p2]] : HH))
    (fun t => match t with | (i, p0, p1, p2) => (0 ≤ i ∧ i ≤ (l.length : Int) ∧ (l.take i.toNat).all inW = true ∧ p0 = (l.take i.toNat).contains 0 ∧ p1 = (l.take i.toNat).contains 1 ∧ p2 = (l.take i.toNat).contains 2 : Prop)) (0, false, false, false) (by kernel_rfl) (by exact ⟨by omega, by omega, by simp, by simp, by simp, by simp⟩) ?_
  rintro ⟨i, p0, p1, p2⟩ ⟨h1, h2, h3, h4, h5, h6⟩
  show Wp _ _ _ _ [(0, .y (.one (sv NI b nil capd l))), (3, yp 0), (4, xi i)] [.obj [vb p0, vb p1, vb p2]] _
  refine wS ?_
  by_cases c2 : (i : Int) < (l.length : Int)
  ·
   refine rSq [(3, xb true, [.obj [vb p0, vb p1, vb p2]])] [(0, .y (.one (sv NI b nil capd l))), (3, yp 0), (4, xi i), (12, xb true)] [.obj [vb p0, vb p1, vb p2]]
     (cast (JZ (Jh (H := [.obj [vb p0, vb p1, vb p2]]) (t := 3) (u := 3) (a := i) (b := (l.length : Int)) (by omega))) (by kernel_rfl)) (by kernel_rfl) ?_
   refine wTk ?_
   refine wS (wB ?_)
   refine wS ?_
   obtain ⟨x3, hx3⟩ : ∃ x, l[(i : Int).toNat]? = some x := get_of (by omega)
   by_cases c4 : (x3 : Int) < 0
   ·
    refine rSq [(2, .y (.one (.rd ([vi x3] ++ (l.drop ((i : Int).toNat + 1)).flatMap (enc NI)))), [.obj [vb p0, vb p1, vb p2]]), (4, xb true, [.obj [vb p0, vb p1, vb p2]])] [(0, .y (.one (sv NI b nil capd l))), (3, yp 0), (4, xi i), (26, xb true)] [.obj [vb p0, vb p1, vb p2]]
      (cast (Jai (Jf (H := [.obj [vb p0, vb p1, vb p2]]) (s := NI) (b := b) (nil := nil) (capd := capd) (t := 36) (el := 3) (i := i) Try.underlying36 (by kernel_rfl) (by kernel_rfl) (by omega) hx3) (JZ (Jh (H := [.obj [vb p0, vb p1, vb p2]]) (t := 3) (u := 3) (a := x3) (b := 0) (by omega)))) (by kernel_rfl)) (by kernel_rfl) ?_
    refine wTa ?_
    refine rSq [] [(2, xi 20)] [.obj [vb p0, vb p1, vb p2]]
      (cast trivial (by kernel_rfl)) (by kernel_rfl) ?_
    refine wE ?_
    exact ⟨Or.inr rfl, [.one (vi 20)], by kernel_rfl, (congrArg (fun z => some [Y.one (vi z)]) (show (20 : Int) = (if okW l then 0 else 20) from by rw [not_ok hx3 (by unfold inW; simp; omega)]; rfl))⟩
   ·
    by_cases c5 : (3 : Int) ≤ x3
    ·
     refine rSq [(2, .y (.one (.rd ([vi x3] ++ (l.drop ((i : Int).toNat + 1)).flatMap (enc NI)))), [.obj [vb p0, vb p1, vb p2]]), (4, xb false, [.obj [vb p0, vb p1, vb p2]]), (8, .y (.one (.rd ([vi x3] ++ (l.drop ((i : Int).toNat + 1)).flatMap (enc NI)))), [.obj [vb p0, vb p1, vb p2]]), (10, xb true, [.obj [vb p0, vb p1, vb p2]])] [(0, .y (.one (sv NI b nil capd l))), (3, yp 0), (4, xi i), (26, xb true)] [.obj [vb p0, vb p1, vb p2]]
       (cast (Jai (Jf (H := [.obj [vb p0, vb p1, vb p2]]) (s := NI) (b := b) (nil := nil) (capd := capd) (t := 36) (el := 3) (i := i) Try.underlying36 (by kernel_rfl) (by kernel_rfl) (by omega) hx3) (Jai (Je (H := [.obj [vb p0, vb p1, vb p2]]) (t := 3) (u := 3) (a := x3) (b := 0) (by omega)) (Jai (Jf (H := [.obj [vb p0, vb p1, vb p2]]) (s := NI) (b := b) (nil := nil) (capd := capd) (t := 36) (el := 3) (i := i) Try.underlying36 (by kernel_rfl) (by kernel_rfl) (by omega) hx3) (JZ (Jw (H := [.obj [vb p0, vb p1, vb p2]]) (t := 3) (u := 3) (a := x3) (b := 3) (by omega)))))) (by kernel_rfl)) (by kernel_rfl) ?_
     refine wTa ?_
     refine rSq [] [(2, xi 20)] [.obj [vb p0, vb p1, vb p2]]
       (cast trivial (by kernel_rfl)) (by kernel_rfl) ?_
     refine wE ?_
     exact ⟨Or.inr rfl, [.one (vi 20)], by kernel_rfl, (congrArg (fun z => some [Y.one (vi z)]) (show (20 : Int) = (if okW l then 0 else 20) from by rw [not_ok hx3 (by unfold inW; simp; omega)]; rfl))⟩
    ·
     refine rSq [(2, .y (.one (.rd ([vi x3] ++ (l.drop ((i : Int).toNat + 1)).flatMap (enc NI)))), [.obj [vb p0, vb p1, vb p2]]), (4, xb false, [.obj [vb p0, vb p1, vb p2]]), (8, .y (.one (.rd ([vi x3] ++ (l.drop ((i : Int).toNat + 1)).flatMap (enc NI)))), [.obj [vb p0, vb p1, vb p2]]), (10, xb false, [.obj [vb p0, vb p1, vb p2]])] [(0, .y (.one (sv NI b nil capd l))), (3, yp 0), (4, xi i), (26, xb false)] [.obj [vb p0, vb p1, vb p2]]
       (cast (Jai (Jf (H := [.obj [vb p0, vb p1, vb p2]]) (s := NI) (b := b) (nil := nil) (capd := capd) (t := 36) (el := 3) (i := i) Try.underlying36 (by kernel_rfl) (by kernel_rfl) (by omega) hx3) (Jai (Je (H := [.obj [vb p0, vb p1, vb p2]]) (t := 3) (u := 3) (a := x3) (b := 0) (by omega)) (Jai (Jf (H := [.obj [vb p0, vb p1, vb p2]]) (s := NI) (b := b) (nil := nil) (capd := capd) (t := 36) (el := 3) (i := i) Try.underlying36 (by kernel_rfl) (by kernel_rfl) (by omega) hx3) (JZ (Jy (H := [.obj [vb p0, vb p1, vb p2]]) (t := 3) (u := 3) (a := x3) (b := 3) (by omega)))))) (by kernel_rfl)) (by kernel_rfl) ?_
     refine wFk ?_
     rcases (show x3 = 0 ∨ x3 = 1 ∨ x3 = 2 from by omega) with rfl | rfl | rfl
     ·
      refine wR [(2, .y (.one (.rd ([vi 0] ++ (l.drop ((i : Int).toNat + 1)).flatMap (enc NI)))), [.obj [vb p0, vb p1, vb p2]])] [(0, .y (.one (sv NI b nil capd l))), (3, yp 0), (4, xi i)] [.obj [vb true, vb p1, vb p2]]
        (cast (JZ (Jf (H := [.obj [vb p0, vb p1, vb p2]]) (s := NI) (b := b) (nil := nil) (capd := capd) (t := 36) (el := 3) (i := i) Try.underlying36 (by kernel_rfl) (by kernel_rfl) (by omega) hx3)) (by kernel_rfl)) (by kernel_rfl) ?_
      refine wR [(1, xi (i + 1), [.obj [vb true, vb p1, vb p2]])] [(0, .y (.one (sv NI b nil capd l))), (3, yp 0), (4, xi (i + 1))] [.obj [vb true, vb p1, vb p2]]
        (cast (JZ (Jj (H := [.obj [vb true, vb p1, vb p2]]) (t := 3) (u := 3) (a := i) (b := 1) (c := (i + 1)) (by omega))) (by kernel_rfl)) (by kernel_rfl) ?_
      exact ⟨((i + 1), true, p1, p2), by kernel_rfl, (by have hs := take_snoc (i := i) (by omega) hx3; exact ⟨by omega, by omega, by rw [hs, List.all_append, h3]; decide, by rw [hs]; exact has_snoc _ _, by rw [hs, ← all_snoc (h5) false (by decide)]; simp, by rw [hs, ← all_snoc (h6) false (by decide)]; simp⟩), (by show (_ : Nat) < _; simp only []; omega)⟩
     ·
      refine wR [(2, .y (.one (.rd ([vi 1] ++ (l.drop ((i : Int).toNat + 1)).flatMap (enc NI)))), [.obj [vb p0, vb p1, vb p2]])] [(0, .y (.one (sv NI b nil capd l))), (3, yp 0), (4, xi i)] [.obj [vb p0, vb true, vb p2]]
        (cast (JZ (Jf (H := [.obj [vb p0, vb p1, vb p2]]) (s := NI) (b := b) (nil := nil) (capd := capd) (t := 36) (el := 3) (i := i) Try.underlying36 (by kernel_rfl) (by kernel_rfl) (by omega) hx3)) (by kernel_rfl)) (by kernel_rfl) ?_
      refine wR [(1, xi (i + 1), [.obj [vb p0, vb true, vb p2]])] [(0, .y (.one (sv NI b nil capd l))), (3, yp 0), (4, xi (i + 1))] [.obj [vb p0, vb true, vb p2]]
        (cast (JZ (Jj (H := [.obj [vb p0, vb true, vb p2]]) (t := 3) (u := 3) (a := i) (b := 1) (c := (i + 1)) (by omega))) (by kernel_rfl)) (by kernel_rfl) ?_
      exact ⟨((i + 1), p0, true, p2), by kernel_rfl, (by have hs := take_snoc (i := i) (by omega) hx3; exact ⟨by omega, by omega, by rw [hs, List.all_append, h3]; decide, by rw [hs, ← all_snoc (h4) false (by decide)]; simp, by rw [hs]; exact has_snoc _ _, by rw [hs, ← all_snoc (h6) false (by decide)]; simp⟩), (by show (_ : Nat) < _; simp only []; omega)⟩
     ·
      refine wR [(2, .y (.one (.rd ([vi 2] ++ (l.drop ((i : Int).toNat + 1)).flatMap (enc NI)))), [.obj [vb p0, vb p1, vb p2]])] [(0, .y (.one (sv NI b nil capd l))), (3, yp 0), (4, xi i)] [.obj [vb p0, vb p1, vb true]]
        (cast (JZ (Jf (H := [.obj [vb p0, vb p1, vb p2]]) (s := NI) (b := b) (nil := nil) (capd := capd) (t := 36) (el := 3) (i := i) Try.underlying36 (by kernel_rfl) (by kernel_rfl) (by omega) hx3)) (by kernel_rfl)) (by kernel_rfl) ?_
      refine wR [(1, xi (i + 1), [.obj [vb p0, vb p1, vb true]])] [(0, .y (.one (sv NI b nil capd l))), (3, yp 0), (4, xi (i + 1))] [.obj [vb p0, vb p1, vb true]]
        (cast (JZ (Jj (H := [.obj [vb p0, vb p1, vb true]]) (t := 3) (u := 3) (a := i) (b := 1) (c := (i + 1)) (by omega))) (by kernel_rfl)) (by kernel_rfl) ?_
      exact ⟨((i + 1), p0, p1, true), by kernel_rfl, (by have hs := take_snoc (i := i) (by omega) hx3; exact ⟨by omega, by omega, by rw [hs, List.all_append, h3]; decide, by rw [hs, ← all_snoc (h4) false (by decide)]; simp, by rw [hs, ← all_snoc (h5) false (by decide)]; simp, by rw [hs]; exact has_snoc _ _⟩), (by show (_ : Nat) < _; simp only []; omega)⟩
  ·
   refine rSq [(3, xb false, [.obj [vb p0, vb p1, vb p2]])] [(0, .y (.one (sv NI b nil capd l))), (3, yp 0), (4, xi i), (12, xb false)] [.obj [vb p0, vb p1, vb p2]]
     (cast (JZ (Je (H := [.obj [vb p0, vb p1, vb p2]]) (t := 3) (u := 3) (a := i) (b := (l.length : Int)) (by omega))) (by kernel_rfl)) (by kernel_rfl) ?_
   refine wFa ?_
   refine wX ?_
   refine Eq.mpr (if_pos rfl) ?_
   refine wS ?_
   refine rSq [] [(3, yp 0), (5, xi 0)] [.obj [vb p0, vb p1, vb p2]]
     (cast trivial (by kernel_rfl)) (by kernel_rfl) ?_
   refine wB ?_
   refine Wp.loopU [(3, yp 0), (5, xi 0)] (some ([3, 5], false)) 1 (by kernel_rfl) ?_
   refine WpL.step ?_
   refine wS ?_
   refine rSq [] [(3, yp 0), (5, xi 0), (33, xb true)] [.obj [vb p0, vb p1, vb p2]]
     (cast trivial (by kernel_rfl)) (by kernel_rfl) ?_
   refine wTk ?_
   refine wS (wB ?_)
   rcases Bool.eq_false_or_eq_true (p0) with c6 | c6
   ·
    refine rSq [(2, xb true, [.obj [vb p0, vb p1, vb p2]])] [(3, yp 0), (5, xi 0), (39, xb false)] [.obj [vb p0, vb p1, vb p2]]
      (cast (JZ (Jl (vals := [yp 0]) (H := [.obj [vb p0, vb p1, vb p2]]) (op := .load 4 (.tmp 0)) (ty := 0) (r := xb p0) (v := xb true) (by kernel_rfl) (congrArg (fun z => xb z) (c6)))) (by kernel_rfl)) (by kernel_rfl) ?_
    refine wFk ?_
    refine wR [] [(3, yp 0), (5, xi 1)] [.obj [vb p0, vb p1, vb p2]]
      (cast trivial (by kernel_rfl)) (by kernel_rfl) ?_
    refine ⟨_, _, rfl, ?_⟩
    refine WpL.step ?_
    refine wS ?_
    refine rSq [] [(3, yp 0), (5, xi 1), (33, xb true)] [.obj [vb p0, vb p1, vb p2]]
      (cast trivial (by kernel_rfl)) (by kernel_rfl) ?_
    refine wTk ?_
    refine wS (wB ?_)
    rcases Bool.eq_false_or_eq_true (p1) with c7 | c7
    ·
     refine rSq [(2, xb true, [.obj [vb p0, vb p1, vb p2]])] [(3, yp 0), (5, xi 1), (39, xb false)] [.obj [vb p0, vb p1, vb p2]]
       (cast (JZ (Jl (vals := [.y (.one (.ptr 0 1))]) (H := [.obj [vb p0, vb p1, vb p2]]) (op := .load 4 (.tmp 0)) (ty := 0) (r := xb p1) (v := xb true) (by kernel_rfl) (congrArg (fun z => xb z) (c7)))) (by kernel_rfl)) (by kernel_rfl) ?_
     refine wFk ?_
     refine wR [] [(3, yp 0), (5, xi 2)] [.obj [vb p0, vb p1, vb p2]]
       (cast trivial (by kernel_rfl)) (by kernel_rfl) ?_
     refine ⟨_, _, rfl, ?_⟩
     refine WpL.step ?_
     refine wS ?_
     refine rSq [] [(3, yp 0), (5, xi 2), (33, xb true)] [.obj [vb p0, vb p1, vb p2]]
       (cast trivial (by kernel_rfl)) (by kernel_rfl) ?_
     refine wTk ?_
     refine wS (wB ?_)
     rcases Bool.eq_false_or_eq_true (p2) with c8 | c8
     ·
      refine rSq [(2, xb true, [.obj [vb p0, vb p1, vb p2]])] [(3, yp 0), (5, xi 2), (39, xb false)] [.obj [vb p0, vb p1, vb p2]]
        (cast (JZ (Jl (vals := [.y (.one (.ptr 0 2))]) (H := [.obj [vb p0, vb p1, vb p2]]) (op := .load 4 (.tmp 0)) (ty := 0) (r := xb p2) (v := xb true) (by kernel_rfl) (congrArg (fun z => xb z) (c8)))) (by kernel_rfl)) (by kernel_rfl) ?_
      refine wFk ?_
      refine wR [] [(3, yp 0), (5, xi 3)] [.obj [vb p0, vb p1, vb p2]]
        (cast trivial (by kernel_rfl)) (by kernel_rfl) ?_
      refine ⟨_, _, rfl, ?_⟩
      refine WpL.step ?_
      refine wS ?_
      refine rSq [] [(3, yp 0), (5, xi 3), (33, xb false)] [.obj [vb p0, vb p1, vb p2]]
        (cast trivial (by kernel_rfl)) (by kernel_rfl) ?_
      refine wFa ?_
      refine wX ?_
      refine Eq.mpr (if_pos rfl) ?_
      refine rSq [] [(2, xi 0)] [.obj [vb p0, vb p1, vb p2]]
        (cast trivial (by kernel_rfl)) (by kernel_rfl) ?_
      refine wE ?_
      exact ⟨Or.inr rfl, [.one (vi 0)], by kernel_rfl, (congrArg (fun z => some [Y.one (vi z)]) (show (0 : Int) = (if okW l then 0 else 20) from by rw [show i.toNat = l.length by omega, List.take_length] at h3 h4 h5 h6; rw [ok_of (by omega) h3 h4 h5 h6]; simp [c6, c7, c8]))⟩
     ·
      refine rSq [(2, xb false, [.obj [vb p0, vb p1, vb p2]])] [(3, yp 0), (5, xi 2), (39, xb true)] [.obj [vb p0, vb p1, vb p2]]
        (cast (JZ (Jl (vals := [.y (.one (.ptr 0 2))]) (H := [.obj [vb p0, vb p1, vb p2]]) (op := .load 4 (.tmp 0)) (ty := 0) (r := xb p2) (v := xb false) (by kernel_rfl) (congrArg (fun z => xb z) (c8)))) (by kernel_rfl)) (by kernel_rfl) ?_
      refine wTa ?_
      refine rSq [] [(2, xi 20)] [.obj [vb p0, vb p1, vb p2]]
        (cast trivial (by kernel_rfl)) (by kernel_rfl) ?_
      refine wE ?_
      exact ⟨Or.inr rfl, [.one (vi 20)], by kernel_rfl, (congrArg (fun z => some [Y.one (vi z)]) (show (20 : Int) = (if okW l then 0 else 20) from by rw [show i.toNat = l.length by omega, List.take_length] at h3 h4 h5 h6; rw [ok_of (by omega) h3 h4 h5 h6]; simp [c6, c7, c8]))⟩
    ·
     refine rSq [(2, xb false, [.obj [vb p0, vb p1, vb p2]])] [(3, yp 0), (5, xi 1), (39, xb true)] [.obj [vb p0, vb p1, vb p2]]
       (cast (JZ (Jl (vals := [.y (.one (.ptr 0 1))]) (H := [.obj [vb p0, vb p1, vb p2]]) (op := .load 4 (.tmp 0)) (ty := 0) (r := xb p1) (v := xb false) (by kernel_rfl) (congrArg (fun z => xb z) (c7)))) (by kernel_rfl)) (by kernel_rfl) ?_
     refine wTa ?_
     refine rSq [] [(2, xi 20)] [.obj [vb p0, vb p1, vb p2]]
       (cast trivial (by kernel_rfl)) (by kernel_rfl) ?_
     refine wE ?_
     exact ⟨Or.inr rfl, [.one (vi 20)], by kernel_rfl, (congrArg (fun z => some [Y.one (vi z)]) (show (20 : Int) = (if okW l then 0 else 20) from by rw [show i.toNat = l.length by omega, List.take_length] at h3 h4 h5 h6; rw [ok_of (by omega) h3 h4 h5 h6]; simp [c6, c7]))⟩
   ·
    refine rSq [(2, xb false, [.obj [vb p0, vb p1, vb p2]])] [(3, yp 0), (5, xi 0), (39, xb true)] [.obj [vb p0, vb p1, vb p2]]
      (cast (JZ (Jl (vals := [yp 0]) (H := [.obj [vb p0, vb p1, vb p2]]) (op := .load 4 (.tmp 0)) (ty := 0) (r := xb p0) (v := xb false) (by kernel_rfl) (congrArg (fun z => xb z) (c6)))) (by kernel_rfl)) (by kernel_rfl) ?_
    refine wTa ?_
    refine rSq [] [(2, xi 20)] [.obj [vb p0, vb p1, vb p2]]
      (cast trivial (by kernel_rfl)) (by kernel_rfl) ?_
    refine wE ?_
    exact ⟨Or.inr rfl, [.one (vi 20)], by kernel_rfl, (congrArg (fun z => some [Y.one (vi z)]) (show (20 : Int) = (if okW l then 0 else 20) from by rw [show i.toNat = l.length by omega, List.take_length] at h3 h4 h5 h6; rw [ok_of (by omega) h3 h4 h5 h6]; simp [c6]))⟩
def at_ (l : List Int) (i : Int) : Int := l.getD i.toNat 0
theorem at_of {l : List Int} {i x : Int} (h : l[i.toNat]? = some x) : at_ l i = x := by simp [at_, List.getD, h]
def distF (l : List Int) (c h : Int) : Nat → Int → Int
  | 0, n => n
  | k + 1, n => if at_ l ((h + n - 1) % (l.length : Int)) = c then n else distF l c h k (n + 1)
def dist (l : List Int) (c h : Int) : Int := distF l c h l.length 1
structure IsDist (l : List Int) (c h d : Int) : Prop where
  pos : 1 ≤ d
  le : d ≤ (l.length : Int)
  hit : at_ l ((h + d - 1) % (l.length : Int)) = c
  miss : ∀ n, 1 ≤ n → n < d → at_ l ((h + n - 1) % (l.length : Int)) ≠ c
theorem okW_mem {l : List Int} {c : Int} (h : okW l = true) (hc : inW c = true) : c ∈ l := by
  simp only [okW, Bool.and_eq_true, List.contains_iff_mem] at h
  obtain ⟨_, _, h0, h1, h2⟩ := h
  simp only [inW, decide_eq_true_eq] at hc
  rcases (show c = 0 ∨ c = 1 ∨ c = 2 by omega) with rfl | rfl | rfl
  · exact h0
  · exact h1
  · exact h2
theorem okW_len {l : List Int} (h : okW l = true) : 3 ≤ (l.length : Int) ∧ (l.length : Int) ≤ 64 := by
  have h0 := okW_mem h (c := 0) (by decide)
  have h1 := okW_mem h (c := 1) (by decide)
  have h2 := okW_mem h (c := 2) (by decide)
  simp only [okW, Bool.and_eq_true, decide_eq_true_eq] at h
  refine ⟨?_, by omega⟩
  match l, h0, h1, h2 with
  | [], h0, _, _ => simp at h0
  | [a], h0, h1, _ => simp at h0 h1; omega
  | [a, b], h0, h1, h2 => simp at h0 h1 h2; omega
  | a :: b :: c :: r, _, _, _ => simp; omega
theorem IsDist.next {l : List Int} {c h d n x : Int} (hd : IsDist l c h d) (hle : n ≤ d) (hx : l[((h + n - 1) % (l.length : Int)).toNat]? = some x) (hne : ¬ x = c) : n + 1 ≤ d := by
  rcases (show n < d ∨ n = d by omega) with hh | rfl
  · omega
  · exact absurd ((at_of hx).symm.trans hd.hit) hne
theorem IsDist.last {l : List Int} {c h d n x : Int} (hd : IsDist l c h d) (hn : 1 ≤ n) (hle : n ≤ d) (hx : l[((h + n - 1) % (l.length : Int)).toNat]? = some x) (he : x = c) : n = d := by
  rcases (show n < d ∨ n = d by omega) with hh | rfl
  · exact absurd ((at_of hx).trans he) (hd.miss n hn hh)
  · rfl
def gapF (l : List Int) (c : Int) : Nat → Int
  | 0 => 0
  | k + 1 => if dist l c k > gapF l c k then dist l c k else gapF l c k
def gap (l : List Int) (c : Int) : Int := gapF l c l.length
def hasW (h0 h1 h2 : Bool) (c : Int) : Bool := if c = 0 then h0 else if c = 1 then h1 else h2
def nx (l : List Int) (hand : Int) (h0 h1 h2 : Bool) : Int × Int × Int :=
  if okW l = false then (0, 0, 20) else if hand < 0 ∨ (l.length : Int) ≤ hand then (0, 0, 1) else
  let s := at_ l hand
  if hasW h0 h1 h2 (s % 3) then (s % 3, (hand + 1) % (l.length : Int), 0) else if hasW h0 h1 h2 ((s + 1) % 3) then ((s + 1) % 3, (hand + 1) % (l.length : Int), 0)
  else if hasW h0 h1 h2 ((s + 2) % 3) then ((s + 2) % 3, (hand + 1) % (l.length : Int), 0) else (0, 0, 3)
end Go.Proofs.Ytoidoeappihplaa
