/- Lemmas. -/
import Derived.Test.YtjdnhbnpdbpgbaaR18A
namespace Go.Proofs.Ytjdnhbnpdbpgbaa
open Go.Lg
set_option linter.unusedVariables false
set_option maxRecDepth 100000
set_option maxHeartbeats 8000000
set_option linter.unusedSimpArgs false
def inW (c : Int) : Bool := decide (0 ≤ c ∧ c < 3)
def okW (l : List Int) : Bool := decide (l.length ≤ 64) && (l.all inW && (l.contains 0 && (l.contains 1 && l.contains 2)))
theorem take_snoc {l : List Int} {i : Int} {x : Int} (h : 0 ≤ i) (hx : l[i.toNat]? = some x) : l.take (i + 1).toNat = l.take i.toNat ++ [x] := by
  rw [show (i + 1).toNat = i.toNat + 1 by omega, List.take_add_one, hx]; rfl
theorem not_ok {l : List Int} {i x : Int} (hx : l[i.toNat]? = some x) (h : inW x = false) : okW l = false := by
  have : l.all inW = false := by
    rw [List.all_eq_false]
    exact ⟨x, List.mem_of_getElem? hx, by simp [h]⟩
  simp [okW, this]
theorem all_snoc {l : List Int} {x : Int} {t : Bool} {c : Int} (h : t = l.contains c) (b : Bool) (hb : (x == c) = b) : (t || b) = (l ++ [x]).contains c := by
  subst h; subst hb
  rw [Bool.eq_iff_iff]
  simp only [Bool.or_eq_true, List.contains_iff_mem, beq_iff_eq, List.mem_append, List.mem_singleton]
  constructor
  · rintro (h | h)
    · exact .inl h
    · exact .inr h.symm
  · rintro (h | h)
    · exact .inl h
    · exact .inr h.symm
theorem has_snoc (l : List Int) (x : Int) : true = (l ++ [x]).contains x := by
  rw [eq_comm, List.contains_iff_mem]; simp
def clsW (c : Int) : Bool := inW c
theorem wclass (c : Int) : PureC pg an 50 [.one (vi c)] [.one (vb (inW c))] := by
 refine rOF Try.func50 rfl ?_
 refine rs0 [(0, xi c)] ?_
 by_cases c1 : (0 : Int) ≤ c
 ·
  by_cases c2 : (c : Int) < 3
  ·
   refine rSz [(2, xb true)] [] (zA 1 (qgeqT [] c 0) (zL 4 (qlssT [] c 3))) ?_
   refine wE ?_
   exact ⟨Or.inr rfl, [.one (vb true)], by kernel_rfl, (congrArg (fun z => some [Y.one (vb z)]) (show true = inW c from by unfold inW; simp; omega))⟩
  refine rSz [(2, xb false)] [] (zA 1 (qgeqT [] c 0) (zL 4 (qlssF [] c 3))) ?_
  refine wE ?_
  exact ⟨Or.inr rfl, [.one (vb false)], by kernel_rfl, (congrArg (fun z => some [Y.one (vb z)]) (show false = inW c from by unfold inW; simp; omega))⟩
 refine rSz [(2, xb false)] [] (zL 1 (qgeqF [] c 0)) ?_
 refine wE ?_
 exact ⟨Or.inr rfl, [.one (vb false)], by kernel_rfl, (congrArg (fun z => some [Y.one (vb z)]) (show false = inW c from by unfold inW; simp; omega))⟩
theorem ok_of {l : List Int} {t0 t1 t2 : Bool} (h : l.length ≤ 64) (ha : l.all inW = true) (h0 : t0 = l.contains 0) (h1 : t1 = l.contains 1) (h2 : t2 = l.contains 2) : okW l = (t0 && (t1 && t2)) := by
  subst h0; subst h1; subst h2
  simp [okW, ha, h]
theorem wcheck (b nil capd : Bool) (l : List Int) (hl : (l.length : Int) ≤ 4611686018427387904) : PureC pg an 25 [.one (sv NI b nil capd l)] [.one (vi (if okW l then 0 else 20))] := by
 refine rOF Try.func25 rfl ?_
 refine rs0 [(0, .y (.one (sv NI b nil capd l)))] ?_
 refine wS ?_
 by_cases c1 : (64 : Int) < (l.length : Int)
 ·
  refine rSz [(0, .y (.one (sv NI b nil capd l))), (9, xb true)] [] (zL 2 (qgtrT [] (l.length : Int) 64)) ?_
  refine wTa ?_
  refine rs0 [(2, xi 20)] ?_
  refine wE ?_
  exact ⟨Or.inr rfl, [.one (vi 20)], by kernel_rfl, (congrArg (fun z => some [Y.one (vi z)]) (show (20 : Int) = (if okW l then 0 else 20) from by rw [show okW l = false from by unfold okW; rw [decide_eq_false (by omega)]; rfl]; rfl))⟩
 refine rSz [(0, .y (.one (sv NI b nil capd l))), (9, xb false)] [] (zL 2 (qgtrF [] (l.length : Int) 64)) ?_
 refine wFk ?_
 refine rSz [(0, .y (.one (sv NI b nil capd l))), (3, yp 0)] [.obj [vb false, vb false, vb false]] zN ?_
 refine wS ?_
 refine rSz [(3, yp 0), (10, .y (.one (sv NI b nil capd l))), (11, xi (l.length : Int)), (12, xi 0)] [.obj [vb false, vb false, vb false]] zN ?_
 refine wB ?_
 refine Wp.loop (T := Int × Bool × Bool × Bool) (fun t => match t with | (i, p0, p1, p2) => (((l.length : Int) - i).toNat : Nat)) (fun t => match t with | (i, p0, p1, p2) => ([(3, yp 0), (10, .y (.one (sv NI b nil capd l))), (11, xi (l.length : Int)), (12, xi i)] : Env)) (fun t => match t with | (i, p0, p1, p2) => ([.obj [vb p0, vb p1, vb p2]] : HH))
   (fun t => match t with | (i, p0, p1, p2) => (0 ≤ i ∧ i ≤ (l.length : Int) ∧ (l.take i.toNat).all inW = true ∧ p0 = (l.take i.toNat).contains 0 ∧ p1 = (l.take i.toNat).contains 1 ∧ p2 = (l.take i.toNat).contains 2 : Prop)) (0, false, false, false) (by kernel_rfl) (by exact ⟨by omega, by omega, by simp, by simp, by simp, by simp⟩) ?_
 rintro ⟨i, p0, p1, p2⟩ ⟨h1, h2, h3, h4, h5, h6⟩
 show Wp _ _ _ _ [(3, yp 0), (10, .y (.one (sv NI b nil capd l))), (11, xi (l.length : Int)), (12, xi i)] [.obj [vb p0, vb p1, vb p2]] _
 by_cases c2 : (i : Int) < (l.length : Int)
 ·
  refine rSz [(3, yp 0), (10, .y (.one (sv NI b nil capd l))), (11, xi (l.length : Int)), (12, xi i), (13, xb true)] [.obj [vb p0, vb p1, vb p2]] (zL 0 (qlssT [.obj [vb p0, vb p1, vb p2]] i (l.length : Int))) ?_
  refine wS (wTk ?_)
  refine wS (wB ?_)
  obtain ⟨x3, hx3⟩ : ∃ x, l[(i : Int).toNat]? = some x := get_of (by omega)
  refine rSz [(3, yp 0), (5, xi x3), (10, .y (.one (sv NI b nil capd l))), (11, xi (l.length : Int)), (12, xi i)] [.obj [vb p0, vb p1, vb p2]] (zL 0 (Jb (H := [.obj [vb p0, vb p1, vb p2]]) (s := NI) (b := b) (nil := nil) (capd := capd) (t := 22) (el := 3) (i := i) Try.underlying22 (by kernel_rfl) (by kernel_rfl) (by omega) hx3)) ?_
  refine wS ?_
  by_cases c4 : (0 : Int) ≤ x3
  ·
   by_cases c5 : (x3 : Int) < 3
   ·
    refine rSz [(3, yp 0), (5, xi x3), (10, .y (.one (sv NI b nil capd l))), (11, xi (l.length : Int)), (12, xi i), (18, xb false)] [.obj [vb p0, vb p1, vb p2]] (zL 1 (Jh (H := [.obj [vb p0, vb p1, vb p2]]) (g := 50) (x := .one (vi x3)) (res := [.one (vb true)]) (by have := wclass x3; rw [show inW x3 = true from by unfold inW; simp; omega] at this; exact this) (by kernel_rfl) (by kernel_rfl))) ?_
    refine wFk ?_
    rcases (show x3 = 0 ∨ x3 = 1 ∨ x3 = 2 from by omega) with rfl | rfl | rfl
    ·
     refine rRz [(3, yp 0), (10, .y (.one (sv NI b nil capd l))), (11, xi (l.length : Int)), (12, xi i)] [.obj [vb true, vb p1, vb p2]] zN ?_
     refine rRz [(3, yp 0), (10, .y (.one (sv NI b nil capd l))), (11, xi (l.length : Int)), (12, xi (i + 1))] [.obj [vb true, vb p1, vb p2]] (zL 0 (qoAdd [.obj [vb true, vb p1, vb p2]] i 1 (i + 1))) ?_
     exact ⟨((i + 1), true, p1, p2), by kernel_rfl, (by have hs := take_snoc (i := i) (by omega) hx3; exact ⟨by omega, by omega, by rw [hs, List.all_append, h3]; decide, by rw [hs]; exact has_snoc _ _, by rw [hs, ← all_snoc (h5) false (by decide)]; simp, by rw [hs, ← all_snoc (h6) false (by decide)]; simp⟩), (by show (_ : Nat) < _; simp only []; omega)⟩
    ·
     refine rRz [(3, yp 0), (10, .y (.one (sv NI b nil capd l))), (11, xi (l.length : Int)), (12, xi i)] [.obj [vb p0, vb true, vb p2]] zN ?_
     refine rRz [(3, yp 0), (10, .y (.one (sv NI b nil capd l))), (11, xi (l.length : Int)), (12, xi (i + 1))] [.obj [vb p0, vb true, vb p2]] (zL 0 (qoAdd [.obj [vb p0, vb true, vb p2]] i 1 (i + 1))) ?_
     exact ⟨((i + 1), p0, true, p2), by kernel_rfl, (by have hs := take_snoc (i := i) (by omega) hx3; exact ⟨by omega, by omega, by rw [hs, List.all_append, h3]; decide, by rw [hs, ← all_snoc (h4) false (by decide)]; simp, by rw [hs]; exact has_snoc _ _, by rw [hs, ← all_snoc (h6) false (by decide)]; simp⟩), (by show (_ : Nat) < _; simp only []; omega)⟩
    refine rRz [(3, yp 0), (10, .y (.one (sv NI b nil capd l))), (11, xi (l.length : Int)), (12, xi i)] [.obj [vb p0, vb p1, vb true]] zN ?_
    refine rRz [(3, yp 0), (10, .y (.one (sv NI b nil capd l))), (11, xi (l.length : Int)), (12, xi (i + 1))] [.obj [vb p0, vb p1, vb true]] (zL 0 (qoAdd [.obj [vb p0, vb p1, vb true]] i 1 (i + 1))) ?_
    exact ⟨((i + 1), p0, p1, true), by kernel_rfl, (by have hs := take_snoc (i := i) (by omega) hx3; exact ⟨by omega, by omega, by rw [hs, List.all_append, h3]; decide, by rw [hs, ← all_snoc (h4) false (by decide)]; simp, by rw [hs, ← all_snoc (h5) false (by decide)]; simp, by rw [hs]; exact has_snoc _ _⟩), (by show (_ : Nat) < _; simp only []; omega)⟩
   refine rSz [(3, yp 0), (5, xi x3), (10, .y (.one (sv NI b nil capd l))), (11, xi (l.length : Int)), (12, xi i), (18, xb true)] [.obj [vb p0, vb p1, vb p2]] (zL 1 (Jh (H := [.obj [vb p0, vb p1, vb p2]]) (g := 50) (x := .one (vi x3)) (res := [.one (vb false)]) (by have := wclass x3; rw [show inW x3 = false from by unfold inW; simp; omega] at this; exact this) (by kernel_rfl) (by kernel_rfl))) ?_
   refine wTa ?_
   refine rSz [(2, xi 20)] [.obj [vb p0, vb p1, vb p2]] zN ?_
   refine wE ?_
   exact ⟨Or.inr rfl, [.one (vi 20)], by kernel_rfl, (congrArg (fun z => some [Y.one (vi z)]) (show (20 : Int) = (if okW l then 0 else 20) from by rw [not_ok hx3 (by unfold inW; simp; omega)]; rfl))⟩
  refine rSz [(3, yp 0), (5, xi x3), (10, .y (.one (sv NI b nil capd l))), (11, xi (l.length : Int)), (12, xi i), (18, xb true)] [.obj [vb p0, vb p1, vb p2]] (zL 1 (Jh (H := [.obj [vb p0, vb p1, vb p2]]) (g := 50) (x := .one (vi x3)) (res := [.one (vb false)]) (by have := wclass x3; rw [show inW x3 = false from by unfold inW; simp; omega] at this; exact this) (by kernel_rfl) (by kernel_rfl))) ?_
  refine wTa ?_
  refine rSz [(2, xi 20)] [.obj [vb p0, vb p1, vb p2]] zN ?_
  refine wE ?_
  exact ⟨Or.inr rfl, [.one (vi 20)], by kernel_rfl, (congrArg (fun z => some [Y.one (vi z)]) (show (20 : Int) = (if okW l then 0 else 20) from by rw [not_ok hx3 (by unfold inW; simp; omega)]; rfl))⟩
 refine rSz [(3, yp 0), (10, .y (.one (sv NI b nil capd l))), (11, xi (l.length : Int)), (12, xi i), (13, xb false)] [.obj [vb p0, vb p1, vb p2]] (zL 0 (qlssF [.obj [vb p0, vb p1, vb p2]] i (l.length : Int))) ?_
 refine wS ?_
 refine wFa ?_
 refine wX ?_
 refine Eq.mpr (if_pos rfl) ?_
 refine wS ?_
 refine rSz [(3, yp 0), (22, xi 0)] [.obj [vb p0, vb p1, vb p2]] zN ?_
 refine wB ?_
 refine Wp.loopU [(3, yp 0), (22, xi 0)] (some ([3, 22], false)) 1 (by kernel_rfl) ?_
 refine WpL.step ?_
 refine rSz [(3, yp 0), (22, xi 0), (23, xb true)] [.obj [vb p0, vb p1, vb p2]] zN ?_
 refine wS (wTk ?_)
 refine wS (wB ?_)
 refine rSz [(3, yp 0), (6, xi 0), (22, xi 0)] [.obj [vb p0, vb p1, vb p2]] zN ?_
 rcases Bool.eq_false_or_eq_true (p0) with c6 | c6
 ·
  refine rSz [(3, yp 0), (22, xi 0), (28, xb false)] [.obj [vb p0, vb p1, vb p2]] (zL 2 (Ja (vals := [yp 0]) (H := [.obj [vb p0, vb p1, vb p2]]) (op := .load 4 (.tmp 0)) (ty := 0) (r := xb p0) (v := xb true) (by kernel_rfl) (congrArg (fun z => xb z) (c6)))) ?_
  refine wFk ?_
  refine rRz [(3, yp 0), (22, xi 1)] [.obj [vb p0, vb p1, vb p2]] zN ?_
  refine ⟨_, _, rfl, ?_⟩
  refine WpL.step ?_
  refine rSz [(3, yp 0), (22, xi 1), (23, xb true)] [.obj [vb p0, vb p1, vb p2]] zN ?_
  refine wS (wTk ?_)
  refine wS (wB ?_)
  refine rSz [(3, yp 0), (6, xi 1), (22, xi 1)] [.obj [vb p0, vb p1, vb p2]] zN ?_
  rcases Bool.eq_false_or_eq_true (p1) with c7 | c7
  ·
   refine rSz [(3, yp 0), (22, xi 1), (28, xb false)] [.obj [vb p0, vb p1, vb p2]] (zL 2 (Ja (vals := [.y (.one (.ptr 0 1))]) (H := [.obj [vb p0, vb p1, vb p2]]) (op := .load 4 (.tmp 0)) (ty := 0) (r := xb p1) (v := xb true) (by kernel_rfl) (congrArg (fun z => xb z) (c7)))) ?_
   refine wFk ?_
   refine rRz [(3, yp 0), (22, xi 2)] [.obj [vb p0, vb p1, vb p2]] zN ?_
   refine ⟨_, _, rfl, ?_⟩
   refine WpL.step ?_
   refine rSz [(3, yp 0), (22, xi 2), (23, xb true)] [.obj [vb p0, vb p1, vb p2]] zN ?_
   refine wS (wTk ?_)
   refine wS (wB ?_)
   refine rSz [(3, yp 0), (6, xi 2), (22, xi 2)] [.obj [vb p0, vb p1, vb p2]] zN ?_
   rcases Bool.eq_false_or_eq_true (p2) with c8 | c8
   ·
    refine rSz [(3, yp 0), (22, xi 2), (28, xb false)] [.obj [vb p0, vb p1, vb p2]] (zL 2 (Ja (vals := [.y (.one (.ptr 0 2))]) (H := [.obj [vb p0, vb p1, vb p2]]) (op := .load 4 (.tmp 0)) (ty := 0) (r := xb p2) (v := xb true) (by kernel_rfl) (congrArg (fun z => xb z) (c8)))) ?_
    refine wFk ?_
    refine rRz [(3, yp 0), (22, xi 3)] [.obj [vb p0, vb p1, vb p2]] zN ?_
    refine ⟨_, _, rfl, ?_⟩
    refine WpL.step ?_
    refine rSz [(3, yp 0), (22, xi 3), (23, xb false)] [.obj [vb p0, vb p1, vb p2]] zN ?_
    refine wS ?_
    refine wFa ?_
    refine wX ?_
    refine Eq.mpr (if_pos rfl) ?_
    refine rSz [(2, xi 0)] [.obj [vb p0, vb p1, vb p2]] zN ?_
    refine wE ?_
    exact ⟨Or.inr rfl, [.one (vi 0)], by kernel_rfl, (congrArg (fun z => some [Y.one (vi z)]) (show (0 : Int) = (if okW l then 0 else 20) from by rw [show i.toNat = l.length by omega, List.take_length] at h3 h4 h5 h6; rw [ok_of (by omega) h3 h4 h5 h6]; simp [c6, c7, c8]))⟩
   refine rSz [(3, yp 0), (22, xi 2), (28, xb true)] [.obj [vb p0, vb p1, vb p2]] (zL 2 (Ja (vals := [.y (.one (.ptr 0 2))]) (H := [.obj [vb p0, vb p1, vb p2]]) (op := .load 4 (.tmp 0)) (ty := 0) (r := xb p2) (v := xb false) (by kernel_rfl) (congrArg (fun z => xb z) (c8)))) ?_
   refine wTa ?_
   refine rSz [(2, xi 20)] [.obj [vb p0, vb p1, vb p2]] zN ?_
   refine wE ?_
   exact ⟨Or.inr rfl, [.one (vi 20)], by kernel_rfl, (congrArg (fun z => some [Y.one (vi z)]) (show (20 : Int) = (if okW l then 0 else 20) from by rw [show i.toNat = l.length by omega, List.take_length] at h3 h4 h5 h6; rw [ok_of (by omega) h3 h4 h5 h6]; simp [c6, c7, c8]))⟩
  refine rSz [(3, yp 0), (22, xi 1), (28, xb true)] [.obj [vb p0, vb p1, vb p2]] (zL 2 (Ja (vals := [.y (.one (.ptr 0 1))]) (H := [.obj [vb p0, vb p1, vb p2]]) (op := .load 4 (.tmp 0)) (ty := 0) (r := xb p1) (v := xb false) (by kernel_rfl) (congrArg (fun z => xb z) (c7)))) ?_
  refine wTa ?_
  refine rSz [(2, xi 20)] [.obj [vb p0, vb p1, vb p2]] zN ?_
  refine wE ?_
  exact ⟨Or.inr rfl, [.one (vi 20)], by kernel_rfl, (congrArg (fun z => some [Y.one (vi z)]) (show (20 : Int) = (if okW l then 0 else 20) from by rw [show i.toNat = l.length by omega, List.take_length] at h3 h4 h5 h6; rw [ok_of (by omega) h3 h4 h5 h6]; simp [c6, c7]))⟩
 refine rSz [(3, yp 0), (22, xi 0), (28, xb true)] [.obj [vb p0, vb p1, vb p2]] (zL 2 (Ja (vals := [yp 0]) (H := [.obj [vb p0, vb p1, vb p2]]) (op := .load 4 (.tmp 0)) (ty := 0) (r := xb p0) (v := xb false) (by kernel_rfl) (congrArg (fun z => xb z) (c6)))) ?_
 refine wTa ?_
 refine rSz [(2, xi 20)] [.obj [vb p0, vb p1, vb p2]] zN ?_
 refine wE ?_
 exact ⟨Or.inr rfl, [.one (vi 20)], by kernel_rfl, (congrArg (fun z => some [Y.one (vi z)]) (show (20 : Int) = (if okW l then 0 else 20) from by rw [show i.toNat = l.length by omega, List.take_length] at h3 h4 h5 h6; rw [ok_of (by omega) h3 h4 h5 h6]; simp [c6]))⟩
theorem rcheck (b nil capd : Bool) (l : List Int) (hl : (l.length : Int) ≤ 4611686018427387904) : PureC pg an 37 [.one (sv NI b nil capd l)] [.one (vi (if okW l then 0 else 20))] := by
 refine rOF Try.func37 rfl ?_
 refine rs0 [(0, .y (.one (sv NI b nil capd l)))] ?_
 refine wS ?_
 by_cases c1 : (64 : Int) < (l.length : Int)
 ·
  refine rSz [(0, .y (.one (sv NI b nil capd l))), (8, xb true)] [] (zL 2 (qgtrT [] (l.length : Int) 64)) ?_
  refine wTa ?_
  refine rs0 [(2, xi 20)] ?_
  refine wE ?_
  exact ⟨Or.inr rfl, [.one (vi 20)], by kernel_rfl, (congrArg (fun z => some [Y.one (vi z)]) (show (20 : Int) = (if okW l then 0 else 20) from by rw [show okW l = false from by unfold okW; rw [decide_eq_false (by omega)]; rfl]; rfl))⟩
 refine rSz [(0, .y (.one (sv NI b nil capd l))), (8, xb false)] [] (zL 2 (qgtrF [] (l.length : Int) 64)) ?_
 refine wFk ?_
 refine rSz [(0, .y (.one (sv NI b nil capd l))), (3, yp 0)] [.obj [vb false, vb false, vb false]] zN ?_
 refine wS ?_
 refine rSz [(0, .y (.one (sv NI b nil capd l))), (3, yp 0), (4, xi 0)] [.obj [vb false, vb false, vb false]] zN ?_
 refine wB ?_
 refine Wp.loop (T := Int × Bool × Bool × Bool) (fun t => match t with | (i, p0, p1, p2) => (((l.length : Int) - i).toNat : Nat)) (fun t => match t with | (i, p0, p1, p2) => ([(0, .y (.one (sv NI b nil capd l))), (3, yp 0), (4, xi i)] : Env)) (fun t => match t with | (i, p0, p1, p2) => ([.obj [vb p0, vb p1, vb p2]] : HH))
   (fun t => match t with | (i, p0, p1, p2) => (0 ≤ i ∧ i ≤ (l.length : Int) ∧ (l.take i.toNat).all inW = true ∧ p0 = (l.take i.toNat).contains 0 ∧ p1 = (l.take i.toNat).contains 1 ∧ p2 = (l.take i.toNat).contains 2 : Prop)) (0, false, false, false) (by kernel_rfl) (by exact ⟨by omega, by omega, by simp, by simp, by simp, by simp⟩) ?_
 rintro ⟨i, p0, p1, p2⟩ ⟨h1, h2, h3, h4, h5, h6⟩
 show Wp _ _ _ _ [(0, .y (.one (sv NI b nil capd l))), (3, yp 0), (4, xi i)] [.obj [vb p0, vb p1, vb p2]] _
 refine wS ?_
 by_cases c2 : (i : Int) < (l.length : Int)
 ·
  refine rSz [(0, .y (.one (sv NI b nil capd l))), (3, yp 0), (4, xi i), (12, xb true)] [.obj [vb p0, vb p1, vb p2]] (zL 3 (qlssT [.obj [vb p0, vb p1, vb p2]] i (l.length : Int))) ?_
  refine wTk ?_
  refine wS (wB ?_)
  refine wS ?_
  obtain ⟨x3, hx3⟩ : ∃ x, l[(i : Int).toNat]? = some x := get_of (by omega)
  by_cases c4 : (x3 : Int) < 0
  ·
   refine rSz [(0, .y (.one (sv NI b nil capd l))), (3, yp 0), (4, xi i), (26, xb true)] [.obj [vb p0, vb p1, vb p2]] (zA 2 (Jb (H := [.obj [vb p0, vb p1, vb p2]]) (s := NI) (b := b) (nil := nil) (capd := capd) (t := 22) (el := 3) (i := i) Try.underlying22 (by kernel_rfl) (by kernel_rfl) (by omega) hx3) (zL 4 (qlssT [.obj [vb p0, vb p1, vb p2]] x3 0))) ?_
   refine wTa ?_
   refine rSz [(2, xi 20)] [.obj [vb p0, vb p1, vb p2]] zN ?_
   refine wE ?_
   exact ⟨Or.inr rfl, [.one (vi 20)], by kernel_rfl, (congrArg (fun z => some [Y.one (vi z)]) (show (20 : Int) = (if okW l then 0 else 20) from by rw [not_ok hx3 (by unfold inW; simp; omega)]; rfl))⟩
  by_cases c5 : (3 : Int) ≤ x3
  ·
   refine rSz [(0, .y (.one (sv NI b nil capd l))), (3, yp 0), (4, xi i), (26, xb true)] [.obj [vb p0, vb p1, vb p2]] (zA 2 (Jb (H := [.obj [vb p0, vb p1, vb p2]]) (s := NI) (b := b) (nil := nil) (capd := capd) (t := 22) (el := 3) (i := i) Try.underlying22 (by kernel_rfl) (by kernel_rfl) (by omega) hx3) (zA 4 (qlssF [.obj [vb p0, vb p1, vb p2]] x3 0) (zA 8 (Jb (H := [.obj [vb p0, vb p1, vb p2]]) (s := NI) (b := b) (nil := nil) (capd := capd) (t := 22) (el := 3) (i := i) Try.underlying22 (by kernel_rfl) (by kernel_rfl) (by omega) hx3) (zL 10 (qgeqT [.obj [vb p0, vb p1, vb p2]] x3 3))))) ?_
   refine wTa ?_
   refine rSz [(2, xi 20)] [.obj [vb p0, vb p1, vb p2]] zN ?_
   refine wE ?_
   exact ⟨Or.inr rfl, [.one (vi 20)], by kernel_rfl, (congrArg (fun z => some [Y.one (vi z)]) (show (20 : Int) = (if okW l then 0 else 20) from by rw [not_ok hx3 (by unfold inW; simp; omega)]; rfl))⟩
  refine rSz [(0, .y (.one (sv NI b nil capd l))), (3, yp 0), (4, xi i), (26, xb false)] [.obj [vb p0, vb p1, vb p2]] (zA 2 (Jb (H := [.obj [vb p0, vb p1, vb p2]]) (s := NI) (b := b) (nil := nil) (capd := capd) (t := 22) (el := 3) (i := i) Try.underlying22 (by kernel_rfl) (by kernel_rfl) (by omega) hx3) (zA 4 (qlssF [.obj [vb p0, vb p1, vb p2]] x3 0) (zA 8 (Jb (H := [.obj [vb p0, vb p1, vb p2]]) (s := NI) (b := b) (nil := nil) (capd := capd) (t := 22) (el := 3) (i := i) Try.underlying22 (by kernel_rfl) (by kernel_rfl) (by omega) hx3) (zL 10 (qgeqF [.obj [vb p0, vb p1, vb p2]] x3 3))))) ?_
  refine wFk ?_
  rcases (show x3 = 0 ∨ x3 = 1 ∨ x3 = 2 from by omega) with rfl | rfl | rfl
  ·
   refine rRz [(0, .y (.one (sv NI b nil capd l))), (3, yp 0), (4, xi i)] [.obj [vb true, vb p1, vb p2]] (zL 2 (Jb (H := [.obj [vb p0, vb p1, vb p2]]) (s := NI) (b := b) (nil := nil) (capd := capd) (t := 22) (el := 3) (i := i) Try.underlying22 (by kernel_rfl) (by kernel_rfl) (by omega) hx3)) ?_
   refine rRz [(0, .y (.one (sv NI b nil capd l))), (3, yp 0), (4, xi (i + 1))] [.obj [vb true, vb p1, vb p2]] (zL 1 (qoAdd [.obj [vb true, vb p1, vb p2]] i 1 (i + 1))) ?_
   exact ⟨((i + 1), true, p1, p2), by kernel_rfl, (by have hs := take_snoc (i := i) (by omega) hx3; exact ⟨by omega, by omega, by rw [hs, List.all_append, h3]; decide, by rw [hs]; exact has_snoc _ _, by rw [hs, ← all_snoc (h5) false (by decide)]; simp, by rw [hs, ← all_snoc (h6) false (by decide)]; simp⟩), (by show (_ : Nat) < _; simp only []; omega)⟩
  ·
   refine rRz [(0, .y (.one (sv NI b nil capd l))), (3, yp 0), (4, xi i)] [.obj [vb p0, vb true, vb p2]] (zL 2 (Jb (H := [.obj [vb p0, vb p1, vb p2]]) (s := NI) (b := b) (nil := nil) (capd := capd) (t := 22) (el := 3) (i := i) Try.underlying22 (by kernel_rfl) (by kernel_rfl) (by omega) hx3)) ?_
   refine rRz [(0, .y (.one (sv NI b nil capd l))), (3, yp 0), (4, xi (i + 1))] [.obj [vb p0, vb true, vb p2]] (zL 1 (qoAdd [.obj [vb p0, vb true, vb p2]] i 1 (i + 1))) ?_
   exact ⟨((i + 1), p0, true, p2), by kernel_rfl, (by have hs := take_snoc (i := i) (by omega) hx3; exact ⟨by omega, by omega, by rw [hs, List.all_append, h3]; decide, by rw [hs, ← all_snoc (h4) false (by decide)]; simp, by rw [hs]; exact has_snoc _ _, by rw [hs, ← all_snoc (h6) false (by decide)]; simp⟩), (by show (_ : Nat) < _; simp only []; omega)⟩
  refine rRz [(0, .y (.one (sv NI b nil capd l))), (3, yp 0), (4, xi i)] [.obj [vb p0, vb p1, vb true]] (zL 2 (Jb (H := [.obj [vb p0, vb p1, vb p2]]) (s := NI) (b := b) (nil := nil) (capd := capd) (t := 22) (el := 3) (i := i) Try.underlying22 (by kernel_rfl) (by kernel_rfl) (by omega) hx3)) ?_
  refine rRz [(0, .y (.one (sv NI b nil capd l))), (3, yp 0), (4, xi (i + 1))] [.obj [vb p0, vb p1, vb true]] (zL 1 (qoAdd [.obj [vb p0, vb p1, vb true]] i 1 (i + 1))) ?_
  exact ⟨((i + 1), p0, p1, true), by kernel_rfl, (by have hs := take_snoc (i := i) (by omega) hx3; exact ⟨by omega, by omega, by rw [hs, List.all_append, h3]; decide, by rw [hs, ← all_snoc (h4) false (by decide)]; simp, by rw [hs, ← all_snoc (h5) false (by decide)]; simp, by rw [hs]; exact has_snoc _ _⟩), (by show (_ : Nat) < _; simp only []; omega)⟩
 refine rSz [(0, .y (.one (sv NI b nil capd l))), (3, yp 0), (4, xi i), (12, xb false)] [.obj [vb p0, vb p1, vb p2]] (zL 3 (qlssF [.obj [vb p0, vb p1, vb p2]] i (l.length : Int))) ?_
 refine wFa ?_
 refine wX ?_
 refine Eq.mpr (if_pos rfl) ?_
 refine wS ?_
 refine rSz [(3, yp 0), (5, xi 0)] [.obj [vb p0, vb p1, vb p2]] zN ?_
 refine wB ?_
 refine Wp.loopU [(3, yp 0), (5, xi 0)] (some ([3, 5], false)) 1 (by kernel_rfl) ?_
 refine WpL.step ?_
 refine wS ?_
 refine rSz [(3, yp 0), (5, xi 0), (33, xb true)] [.obj [vb p0, vb p1, vb p2]] zN ?_
 refine wTk ?_
 refine wS (wB ?_)
 rcases Bool.eq_false_or_eq_true (p0) with c6 | c6
 ·
  refine rSz [(3, yp 0), (5, xi 0), (39, xb false)] [.obj [vb p0, vb p1, vb p2]] (zL 2 (Ja (vals := [yp 0]) (H := [.obj [vb p0, vb p1, vb p2]]) (op := .load 4 (.tmp 0)) (ty := 0) (r := xb p0) (v := xb true) (by kernel_rfl) (congrArg (fun z => xb z) (c6)))) ?_
  refine wFk ?_
  refine rRz [(3, yp 0), (5, xi 1)] [.obj [vb p0, vb p1, vb p2]] zN ?_
  refine ⟨_, _, rfl, ?_⟩
  refine WpL.step ?_
  refine wS ?_
  refine rSz [(3, yp 0), (5, xi 1), (33, xb true)] [.obj [vb p0, vb p1, vb p2]] zN ?_
  refine wTk ?_
  refine wS (wB ?_)
  rcases Bool.eq_false_or_eq_true (p1) with c7 | c7
  ·
   refine rSz [(3, yp 0), (5, xi 1), (39, xb false)] [.obj [vb p0, vb p1, vb p2]] (zL 2 (Ja (vals := [.y (.one (.ptr 0 1))]) (H := [.obj [vb p0, vb p1, vb p2]]) (op := .load 4 (.tmp 0)) (ty := 0) (r := xb p1) (v := xb true) (by kernel_rfl) (congrArg (fun z => xb z) (c7)))) ?_
   refine wFk ?_
   refine rRz [(3, yp 0), (5, xi 2)] [.obj [vb p0, vb p1, vb p2]] zN ?_
   refine ⟨_, _, rfl, ?_⟩
   refine WpL.step ?_
   refine wS ?_
   refine rSz [(3, yp 0), (5, xi 2), (33, xb true)] [.obj [vb p0, vb p1, vb p2]] zN ?_
   refine wTk ?_
   refine wS (wB ?_)
   rcases Bool.eq_false_or_eq_true (p2) with c8 | c8
   ·
    refine rSz [(3, yp 0), (5, xi 2), (39, xb false)] [.obj [vb p0, vb p1, vb p2]] (zL 2 (Ja (vals := [.y (.one (.ptr 0 2))]) (H := [.obj [vb p0, vb p1, vb p2]]) (op := .load 4 (.tmp 0)) (ty := 0) (r := xb p2) (v := xb true) (by kernel_rfl) (congrArg (fun z => xb z) (c8)))) ?_
    refine wFk ?_
    refine rRz [(3, yp 0), (5, xi 3)] [.obj [vb p0, vb p1, vb p2]] zN ?_
    refine ⟨_, _, rfl, ?_⟩
    refine WpL.step ?_
    refine wS ?_
    refine rSz [(3, yp 0), (5, xi 3), (33, xb false)] [.obj [vb p0, vb p1, vb p2]] zN ?_
    refine wFa ?_
    refine wX ?_
    refine Eq.mpr (if_pos rfl) ?_
    refine rSz [(2, xi 0)] [.obj [vb p0, vb p1, vb p2]] zN ?_
    refine wE ?_
    exact ⟨Or.inr rfl, [.one (vi 0)], by kernel_rfl, (congrArg (fun z => some [Y.one (vi z)]) (show (0 : Int) = (if okW l then 0 else 20) from by rw [show i.toNat = l.length by omega, List.take_length] at h3 h4 h5 h6; rw [ok_of (by omega) h3 h4 h5 h6]; simp [c6, c7, c8]))⟩
   refine rSz [(3, yp 0), (5, xi 2), (39, xb true)] [.obj [vb p0, vb p1, vb p2]] (zL 2 (Ja (vals := [.y (.one (.ptr 0 2))]) (H := [.obj [vb p0, vb p1, vb p2]]) (op := .load 4 (.tmp 0)) (ty := 0) (r := xb p2) (v := xb false) (by kernel_rfl) (congrArg (fun z => xb z) (c8)))) ?_
   refine wTa ?_
   refine rSz [(2, xi 20)] [.obj [vb p0, vb p1, vb p2]] zN ?_
   refine wE ?_
   exact ⟨Or.inr rfl, [.one (vi 20)], by kernel_rfl, (congrArg (fun z => some [Y.one (vi z)]) (show (20 : Int) = (if okW l then 0 else 20) from by rw [show i.toNat = l.length by omega, List.take_length] at h3 h4 h5 h6; rw [ok_of (by omega) h3 h4 h5 h6]; simp [c6, c7, c8]))⟩
  refine rSz [(3, yp 0), (5, xi 1), (39, xb true)] [.obj [vb p0, vb p1, vb p2]] (zL 2 (Ja (vals := [.y (.one (.ptr 0 1))]) (H := [.obj [vb p0, vb p1, vb p2]]) (op := .load 4 (.tmp 0)) (ty := 0) (r := xb p1) (v := xb false) (by kernel_rfl) (congrArg (fun z => xb z) (c7)))) ?_
  refine wTa ?_
  refine rSz [(2, xi 20)] [.obj [vb p0, vb p1, vb p2]] zN ?_
  refine wE ?_
  exact ⟨Or.inr rfl, [.one (vi 20)], by kernel_rfl, (congrArg (fun z => some [Y.one (vi z)]) (show (20 : Int) = (if okW l then 0 else 20) from by rw [show i.toNat = l.length by omega, List.take_length] at h3 h4 h5 h6; rw [ok_of (by omega) h3 h4 h5 h6]; simp [c6, c7]))⟩
 refine rSz [(3, yp 0), (5, xi 0), (39, xb true)] [.obj [vb p0, vb p1, vb p2]] (zL 2 (Ja (vals := [yp 0]) (H := [.obj [vb p0, vb p1, vb p2]]) (op := .load 4 (.tmp 0)) (ty := 0) (r := xb p0) (v := xb false) (by kernel_rfl) (congrArg (fun z => xb z) (c6)))) ?_
 refine wTa ?_
 refine rSz [(2, xi 20)] [.obj [vb p0, vb p1, vb p2]] zN ?_
 refine wE ?_
 exact ⟨Or.inr rfl, [.one (vi 20)], by kernel_rfl, (congrArg (fun z => some [Y.one (vi z)]) (show (20 : Int) = (if okW l then 0 else 20) from by rw [show i.toNat = l.length by omega, List.take_length] at h3 h4 h5 h6; rw [ok_of (by omega) h3 h4 h5 h6]; simp [c6]))⟩
def at_ (l : List Int) (i : Int) : Int := l.getD i.toNat 0
theorem at_of {l : List Int} {i x : Int} (h : l[i.toNat]? = some x) : at_ l i = x := by simp [at_, List.getD, h]
def distF (l : List Int) (c h : Int) : Nat → Int → Int
  | 0, n => n
  | k + 1, n => if at_ l ((h + n - 1) % (l.length : Int)) = c then n else distF l c h k (n + 1)
def dist (l : List Int) (c h : Int) : Int := distF l c h l.length 1
structure IsDist (l : List Int) (c h d : Int) : Prop where
  pos : 1 ≤ d
  le : d ≤ (l.length : Int)
  hit : at_ l ((h + d - 1) % (l.length : Int)) = c
  miss : ∀ n, 1 ≤ n → n < d → at_ l ((h + n - 1) % (l.length : Int)) ≠ c
theorem okW_mem {l : List Int} {c : Int} (h : okW l = true) (hc : inW c = true) : c ∈ l := by
  simp only [okW, Bool.and_eq_true, List.contains_iff_mem] at h
  obtain ⟨_, _, h0, h1, h2⟩ := h
  simp only [inW, decide_eq_true_eq] at hc
  rcases (show c = 0 ∨ c = 1 ∨ c = 2 by omega) with rfl | rfl | rfl
  · exact h0
  · exact h1
  · exact h2
theorem okW_elem {l : List Int} {i x : Int} (h : okW l = true) (hx : l[i.toNat]? = some x) : 0 ≤ x ∧ x < 3 := by
  simp only [okW, Bool.and_eq_true, List.all_eq_true] at h
  have := h.2.1 x (List.mem_of_getElem? hx)
  simpa [inW] using this
theorem okW_len {l : List Int} (h : okW l = true) : 3 ≤ (l.length : Int) ∧ (l.length : Int) ≤ 64 := by
  have h0 := okW_mem h (c := 0) (by decide)
  have h1 := okW_mem h (c := 1) (by decide)
  have h2 := okW_mem h (c := 2) (by decide)
  simp only [okW, Bool.and_eq_true, decide_eq_true_eq] at h
  refine ⟨?_, by omega⟩
  match l, h0, h1, h2 with
  | [], h0, _, _ => simp at h0
  | [a], h0, h1, _ => simp at h0 h1; omega
  | [a, b], h0, h1, h2 => simp at h0 h1 h2; omega
  | a :: b :: c :: r, _, _, _ => simp; omega
theorem IsDist.next {l : List Int} {c h d n x : Int} (hd : IsDist l c h d) (hle : n ≤ d) (hx : l[((h + n - 1) % (l.length : Int)).toNat]? = some x) (hne : ¬ x = c) : n + 1 ≤ d := by
  rcases (show n < d ∨ n = d by omega) with hh | rfl
  · omega
  · exact absurd ((at_of hx).symm.trans hd.hit) hne
theorem IsDist.last {l : List Int} {c h d n x : Int} (hd : IsDist l c h d) (hn : 1 ≤ n) (hle : n ≤ d) (hx : l[((h + n - 1) % (l.length : Int)).toNat]? = some x) (he : x = c) : n = d := by
  rcases (show n < d ∨ n = d by omega) with hh | rfl
  · exact absurd ((at_of hx).trans he) (hd.miss n hn hh)
  · rfl
def gapF (l : List Int) (c : Int) : Nat → Int
  | 0 => 0
  | k + 1 => if dist l c k > gapF l c k then dist l c k else gapF l c k
def gap (l : List Int) (c : Int) : Int := gapF l c l.length
def hasW (h0 h1 h2 : Bool) (c : Int) : Bool := if c = 0 then h0 else if c = 1 then h1 else h2
def nx (l : List Int) (hand : Int) (h0 h1 h2 : Bool) : Int × Int × Int :=
  if okW l = false then (0, 0, 20) else if hand < 0 ∨ (l.length : Int) ≤ hand then (0, 0, 1) else
  let s := at_ l hand
  if hasW h0 h1 h2 (s % 3) then (s % 3, (hand + 1) % (l.length : Int), 0) else if hasW h0 h1 h2 ((s + 1) % 3) then ((s + 1) % 3, (hand + 1) % (l.length : Int), 0)
  else if hasW h0 h1 h2 ((s + 2) % 3) then ((s + 2) % 3, (hand + 1) % (l.length : Int), 0) else (0, 0, 3)
theorem wnext (b nil capd : Bool) (l : List Int) (hl : (l.length : Int) ≤ 4611686018427387904) (hand : Int) (h0 h1 h2 : Bool) : PureC pg an 33 [.one (sv NI b nil capd l), .one (vi hand), .agg [vb h0, vb h1, vb h2]] [.one (vi (nx l hand h0 h1 h2).1), .one (vi (nx l hand h0 h1 h2).2.1), .one (vi (nx l hand h0 h1 h2).2.2)] := by
 refine rOF Try.func33 rfl ?_
 refine rSz [(0, .y (.one (sv NI b nil capd l))), (1, xi hand), (5, yp 0)] [.obj [vb h0, vb h1, vb h2]] zN ?_
 refine wS (wB ?_)
 rcases Bool.eq_false_or_eq_true ((okW l)) with c1 | c1
 ·
  have hkz2 := okW_len c1
  refine rSz [(0, .y (.one (sv NI b nil capd l))), (1, xi hand), (5, yp 0), (11, xb false)] [.obj [vb h0, vb h1, vb h2]] (zL 1 (Jh (H := [.obj [vb h0, vb h1, vb h2]]) (g := 25) (x := .one (sv NI b nil capd l)) (res := [.one (vi 0)]) (by have := wcheck b nil capd l (by omega); rw [c1] at this; exact this) (by kernel_rfl) (by kernel_rfl))) ?_
  refine wFa ?_
  by_cases c3 : (hand : Int) < 0
  ·
   refine rSz [(0, .y (.one (sv NI b nil capd l))), (1, xi hand), (5, yp 0), (15, xb true)] [.obj [vb h0, vb h1, vb h2]] (zL 1 (qlssT [.obj [vb h0, vb h1, vb h2]] hand 0)) ?_
   refine wTa ?_
   refine rSz [(6, xi 0), (7, xi 0), (8, xi 1)] [.obj [vb h0, vb h1, vb h2]] zN ?_
   refine wE ?_
   exact ⟨Or.inr rfl, [.one (vi 0), .one (vi 0), .one (vi 1)], by kernel_rfl, (by have hp : nx l hand h0 h1 h2 = (0, 0, 1) := by { unfold nx; rw [c1]; rw [if_neg (by decide), if_pos (by omega)] }; rw [hp]; rfl)⟩
  by_cases c4 : ((l.length : Int) : Int) ≤ hand
  ·
   refine rSz [(0, .y (.one (sv NI b nil capd l))), (1, xi hand), (5, yp 0), (15, xb true)] [.obj [vb h0, vb h1, vb h2]] (zA 1 (qlssF [.obj [vb h0, vb h1, vb h2]] hand 0) (zL 6 (qgeqT [.obj [vb h0, vb h1, vb h2]] hand (l.length : Int)))) ?_
   refine wTa ?_
   refine rSz [(6, xi 0), (7, xi 0), (8, xi 1)] [.obj [vb h0, vb h1, vb h2]] zN ?_
   refine wE ?_
   exact ⟨Or.inr rfl, [.one (vi 0), .one (vi 0), .one (vi 1)], by kernel_rfl, (by have hp : nx l hand h0 h1 h2 = (0, 0, 1) := by { unfold nx; rw [c1]; rw [if_neg (by decide), if_pos (by omega)] }; rw [hp]; rfl)⟩
  refine rSz [(0, .y (.one (sv NI b nil capd l))), (1, xi hand), (5, yp 0), (15, xb false)] [.obj [vb h0, vb h1, vb h2]] (zA 1 (qlssF [.obj [vb h0, vb h1, vb h2]] hand 0) (zL 6 (qgeqF [.obj [vb h0, vb h1, vb h2]] hand (l.length : Int)))) ?_
  refine wFk ?_
  refine wS ?_
  refine rSz [(0, .y (.one (sv NI b nil capd l))), (1, xi hand), (5, yp 0), (24, xi 0)] [.obj [vb h0, vb h1, vb h2]] zN ?_
  refine wB ?_
  refine Wp.loopU [(0, .y (.one (sv NI b nil capd l))), (1, xi hand), (5, yp 0), (24, xi 0)] (some ([0, 1, 5, 24], false)) 1 (by kernel_rfl) ?_
  refine WpL.step ?_
  refine rSz [(0, .y (.one (sv NI b nil capd l))), (1, xi hand), (5, yp 0), (24, xi 0), (25, xb true)] [.obj [vb h0, vb h1, vb h2]] zN ?_
  refine wS (wTk ?_)
  refine wS (wB ?_)
  refine rSz [(0, .y (.one (sv NI b nil capd l))), (1, xi hand), (5, yp 0), (9, xi 0), (24, xi 0)] [.obj [vb h0, vb h1, vb h2]] zN ?_
  obtain ⟨x5, hx5⟩ : ∃ x, l[(hand : Int).toNat]? = some x := get_of (by omega)
  have hez6 := okW_elem c1 hx5
  refine rSz [(0, .y (.one (sv NI b nil capd l))), (1, xi hand), (5, yp 0), (10, xi (x5 % 3)), (24, xi 0)] [.obj [vb h0, vb h1, vb h2]] (zA 2 (Jb (H := [.obj [vb h0, vb h1, vb h2]]) (s := NI) (b := b) (nil := nil) (capd := capd) (t := 22) (el := 3) (i := hand) Try.underlying22 (by kernel_rfl) (by kernel_rfl) (by omega) hx5) (zA 5 (qoAdd [.obj [vb h0, vb h1, vb h2]] x5 0 x5) (zL 6 (Ja (vals := [xi x5, xi 3]) (H := [.obj [vb h0, vb h1, vb h2]]) (op := .binOp .rem 3 (.tmp 0) (.tmp 1) 3) (ty := 0) (r := xi (Int.tmod x5 3)) (v := xi (x5 % 3)) (by kernel_rfl) (congrArg (fun z => xi z) (Int.tmod_eq_emod_of_nonneg (by omega))))))) ?_
  rcases (show x5 = 0 ∨ x5 = 1 ∨ x5 = 2 from by omega) with rfl | rfl | rfl
  ·
   rcases Bool.eq_false_or_eq_true (h0) with c7 | c7
   ·
    refine rSz [(0, .y (.one (sv NI b nil capd l))), (1, xi hand), (5, yp 0), (10, xi 0), (24, xi 0), (36, xb true)] [.obj [vb h0, vb h1, vb h2]] (zL 2 (Ja (vals := [yp 0]) (H := [.obj [vb h0, vb h1, vb h2]]) (op := .load 4 (.tmp 0)) (ty := 0) (r := xb h0) (v := xb true) (by kernel_rfl) (congrArg (fun z => xb z) (c7)))) ?_
    refine wTa ?_
    have hmz8 := mod_is (a := (hand + 1)) (b := (l.length : Int)) (by omega) (by omega)
    refine rSz [(6, xi 0), (7, xi ((hand + 1) % (l.length : Int))), (8, xi 0)] [.obj [vb h0, vb h1, vb h2]] (zA 2 (qoAdd [.obj [vb h0, vb h1, vb h2]] hand 1 (hand + 1)) (zL 5 (Jf (H := [.obj [vb h0, vb h1, vb h2]]) (t := 3) (u := 3) (ty := 0) (a := (hand + 1)) (b := (l.length : Int)) (by omega) (by omega)))) ?_
    refine wE ?_
    exact ⟨Or.inr rfl, [.one (vi 0), .one (vi ((hand + 1) % (l.length : Int))), .one (vi 0)], by kernel_rfl, (by have hp : nx l hand h0 h1 h2 = (0, ((hand + 1) % (l.length : Int)), 0) := by { unfold nx; rw [c1]; rw [if_neg (by decide), if_neg (by omega)]; rw [show at_ l hand = 0 from at_of hx5]; simp [hasW, c7] }; rw [hp]; rfl)⟩
   refine rSz [(0, .y (.one (sv NI b nil capd l))), (1, xi hand), (5, yp 0), (10, xi 0), (24, xi 0), (36, xb false)] [.obj [vb h0, vb h1, vb h2]] (zL 2 (Ja (vals := [yp 0]) (H := [.obj [vb h0, vb h1, vb h2]]) (op := .load 4 (.tmp 0)) (ty := 0) (r := xb h0) (v := xb false) (by kernel_rfl) (congrArg (fun z => xb z) (c7)))) ?_
   refine wFk ?_
   refine rRz [(0, .y (.one (sv NI b nil capd l))), (1, xi hand), (5, yp 0), (24, xi 1)] [.obj [vb h0, vb h1, vb h2]] zN ?_
   refine ⟨_, _, rfl, ?_⟩
   refine WpL.step ?_
   refine rSz [(0, .y (.one (sv NI b nil capd l))), (1, xi hand), (5, yp 0), (24, xi 1), (25, xb true)] [.obj [vb h0, vb h1, vb h2]] zN ?_
   refine wS (wTk ?_)
   refine wS (wB ?_)
   refine rSz [(0, .y (.one (sv NI b nil capd l))), (1, xi hand), (5, yp 0), (9, xi 1), (24, xi 1)] [.obj [vb h0, vb h1, vb h2]] zN ?_
   refine rSz [(0, .y (.one (sv NI b nil capd l))), (1, xi hand), (5, yp 0), (10, xi 1), (24, xi 1)] [.obj [vb h0, vb h1, vb h2]] (zL 2 (Jb (H := [.obj [vb h0, vb h1, vb h2]]) (s := NI) (b := b) (nil := nil) (capd := capd) (t := 22) (el := 3) (i := hand) Try.underlying22 (by kernel_rfl) (by kernel_rfl) (by omega) hx5)) ?_
   rcases Bool.eq_false_or_eq_true (h1) with c10 | c10
   ·
    refine rSz [(0, .y (.one (sv NI b nil capd l))), (1, xi hand), (5, yp 0), (10, xi 1), (24, xi 1), (36, xb true)] [.obj [vb h0, vb h1, vb h2]] (zL 2 (Ja (vals := [.y (.one (.ptr 0 1))]) (H := [.obj [vb h0, vb h1, vb h2]]) (op := .load 4 (.tmp 0)) (ty := 0) (r := xb h1) (v := xb true) (by kernel_rfl) (congrArg (fun z => xb z) (c10)))) ?_
    refine wTa ?_
    have hmz11 := mod_is (a := (hand + 1)) (b := (l.length : Int)) (by omega) (by omega)
    refine rSz [(6, xi 1), (7, xi ((hand + 1) % (l.length : Int))), (8, xi 0)] [.obj [vb h0, vb h1, vb h2]] (zA 2 (qoAdd [.obj [vb h0, vb h1, vb h2]] hand 1 (hand + 1)) (zL 5 (Jf (H := [.obj [vb h0, vb h1, vb h2]]) (t := 3) (u := 3) (ty := 0) (a := (hand + 1)) (b := (l.length : Int)) (by omega) (by omega)))) ?_
    refine wE ?_
    exact ⟨Or.inr rfl, [.one (vi 1), .one (vi ((hand + 1) % (l.length : Int))), .one (vi 0)], by kernel_rfl, (by have hp : nx l hand h0 h1 h2 = (1, ((hand + 1) % (l.length : Int)), 0) := by { unfold nx; rw [c1]; rw [if_neg (by decide), if_neg (by omega)]; rw [show at_ l hand = 0 from at_of hx5]; simp [hasW, c7, c10] }; rw [hp]; rfl)⟩
   refine rSz [(0, .y (.one (sv NI b nil capd l))), (1, xi hand), (5, yp 0), (10, xi 1), (24, xi 1), (36, xb false)] [.obj [vb h0, vb h1, vb h2]] (zL 2 (Ja (vals := [.y (.one (.ptr 0 1))]) (H := [.obj [vb h0, vb h1, vb h2]]) (op := .load 4 (.tmp 0)) (ty := 0) (r := xb h1) (v := xb false) (by kernel_rfl) (congrArg (fun z => xb z) (c10)))) ?_
   refine wFk ?_
   refine rRz [(0, .y (.one (sv NI b nil capd l))), (1, xi hand), (5, yp 0), (24, xi 2)] [.obj [vb h0, vb h1, vb h2]] zN ?_
   refine ⟨_, _, rfl, ?_⟩
   refine WpL.step ?_
   refine rSz [(0, .y (.one (sv NI b nil capd l))), (1, xi hand), (5, yp 0), (24, xi 2), (25, xb true)] [.obj [vb h0, vb h1, vb h2]] zN ?_
   refine wS (wTk ?_)
   refine wS (wB ?_)
   refine rSz [(0, .y (.one (sv NI b nil capd l))), (1, xi hand), (5, yp 0), (9, xi 2), (24, xi 2)] [.obj [vb h0, vb h1, vb h2]] zN ?_
   refine rSz [(0, .y (.one (sv NI b nil capd l))), (1, xi hand), (5, yp 0), (10, xi 2), (24, xi 2)] [.obj [vb h0, vb h1, vb h2]] (zL 2 (Jb (H := [.obj [vb h0, vb h1, vb h2]]) (s := NI) (b := b) (nil := nil) (capd := capd) (t := 22) (el := 3) (i := hand) Try.underlying22 (by kernel_rfl) (by kernel_rfl) (by omega) hx5)) ?_
   rcases Bool.eq_false_or_eq_true (h2) with c13 | c13
   ·
    refine rSz [(0, .y (.one (sv NI b nil capd l))), (1, xi hand), (5, yp 0), (10, xi 2), (24, xi 2), (36, xb true)] [.obj [vb h0, vb h1, vb h2]] (zL 2 (Ja (vals := [.y (.one (.ptr 0 2))]) (H := [.obj [vb h0, vb h1, vb h2]]) (op := .load 4 (.tmp 0)) (ty := 0) (r := xb h2) (v := xb true) (by kernel_rfl) (congrArg (fun z => xb z) (c13)))) ?_
    refine wTa ?_
    have hmz14 := mod_is (a := (hand + 1)) (b := (l.length : Int)) (by omega) (by omega)
    refine rSz [(6, xi 2), (7, xi ((hand + 1) % (l.length : Int))), (8, xi 0)] [.obj [vb h0, vb h1, vb h2]] (zA 2 (qoAdd [.obj [vb h0, vb h1, vb h2]] hand 1 (hand + 1)) (zL 5 (Jf (H := [.obj [vb h0, vb h1, vb h2]]) (t := 3) (u := 3) (ty := 0) (a := (hand + 1)) (b := (l.length : Int)) (by omega) (by omega)))) ?_
    refine wE ?_
    exact ⟨Or.inr rfl, [.one (vi 2), .one (vi ((hand + 1) % (l.length : Int))), .one (vi 0)], by kernel_rfl, (by have hp : nx l hand h0 h1 h2 = (2, ((hand + 1) % (l.length : Int)), 0) := by { unfold nx; rw [c1]; rw [if_neg (by decide), if_neg (by omega)]; rw [show at_ l hand = 0 from at_of hx5]; simp [hasW, c7, c10, c13] }; rw [hp]; rfl)⟩
   refine rSz [(0, .y (.one (sv NI b nil capd l))), (1, xi hand), (5, yp 0), (10, xi 2), (24, xi 2), (36, xb false)] [.obj [vb h0, vb h1, vb h2]] (zL 2 (Ja (vals := [.y (.one (.ptr 0 2))]) (H := [.obj [vb h0, vb h1, vb h2]]) (op := .load 4 (.tmp 0)) (ty := 0) (r := xb h2) (v := xb false) (by kernel_rfl) (congrArg (fun z => xb z) (c13)))) ?_
   refine wFk ?_
   refine rRz [(0, .y (.one (sv NI b nil capd l))), (1, xi hand), (5, yp 0), (24, xi 3)] [.obj [vb h0, vb h1, vb h2]] zN ?_
   refine ⟨_, _, rfl, ?_⟩
   refine WpL.step ?_
   refine rSz [(0, .y (.one (sv NI b nil capd l))), (1, xi hand), (5, yp 0), (24, xi 3), (25, xb false)] [.obj [vb h0, vb h1, vb h2]] zN ?_
   refine wS ?_
   refine wFa ?_
   refine wX ?_
   refine Eq.mpr (if_pos rfl) ?_
   refine rSz [(6, xi 0), (7, xi 0), (8, xi 3)] [.obj [vb h0, vb h1, vb h2]] zN ?_
   refine wE ?_
   exact ⟨Or.inr rfl, [.one (vi 0), .one (vi 0), .one (vi 3)], by kernel_rfl, (by have hp : nx l hand h0 h1 h2 = (0, 0, 3) := by { unfold nx; rw [c1]; rw [if_neg (by decide), if_neg (by omega)]; rw [show at_ l hand = 0 from at_of hx5]; simp [hasW, c7, c10, c13] }; rw [hp]; rfl)⟩
  ·
   rcases Bool.eq_false_or_eq_true (h1) with c16 | c16
   ·
    refine rSz [(0, .y (.one (sv NI b nil capd l))), (1, xi hand), (5, yp 0), (10, xi 1), (24, xi 0), (36, xb true)] [.obj [vb h0, vb h1, vb h2]] (zL 2 (Ja (vals := [.y (.one (.ptr 0 1))]) (H := [.obj [vb h0, vb h1, vb h2]]) (op := .load 4 (.tmp 0)) (ty := 0) (r := xb h1) (v := xb true) (by kernel_rfl) (congrArg (fun z => xb z) (c16)))) ?_
    refine wTa ?_
    have hmz17 := mod_is (a := (hand + 1)) (b := (l.length : Int)) (by omega) (by omega)
    refine rSz [(6, xi 1), (7, xi ((hand + 1) % (l.length : Int))), (8, xi 0)] [.obj [vb h0, vb h1, vb h2]] (zA 2 (qoAdd [.obj [vb h0, vb h1, vb h2]] hand 1 (hand + 1)) (zL 5 (Jf (H := [.obj [vb h0, vb h1, vb h2]]) (t := 3) (u := 3) (ty := 0) (a := (hand + 1)) (b := (l.length : Int)) (by omega) (by omega)))) ?_
    refine wE ?_
    exact ⟨Or.inr rfl, [.one (vi 1), .one (vi ((hand + 1) % (l.length : Int))), .one (vi 0)], by kernel_rfl, (by have hp : nx l hand h0 h1 h2 = (1, ((hand + 1) % (l.length : Int)), 0) := by { unfold nx; rw [c1]; rw [if_neg (by decide), if_neg (by omega)]; rw [show at_ l hand = 1 from at_of hx5]; simp [hasW, c16] }; rw [hp]; rfl)⟩
   refine rSz [(0, .y (.one (sv NI b nil capd l))), (1, xi hand), (5, yp 0), (10, xi 1), (24, xi 0), (36, xb false)] [.obj [vb h0, vb h1, vb h2]] (zL 2 (Ja (vals := [.y (.one (.ptr 0 1))]) (H := [.obj [vb h0, vb h1, vb h2]]) (op := .load 4 (.tmp 0)) (ty := 0) (r := xb h1) (v := xb false) (by kernel_rfl) (congrArg (fun z => xb z) (c16)))) ?_
   refine wFk ?_
   refine rRz [(0, .y (.one (sv NI b nil capd l))), (1, xi hand), (5, yp 0), (24, xi 1)] [.obj [vb h0, vb h1, vb h2]] zN ?_
   refine ⟨_, _, rfl, ?_⟩
   refine WpL.step ?_
   refine rSz [(0, .y (.one (sv NI b nil capd l))), (1, xi hand), (5, yp 0), (24, xi 1), (25, xb true)] [.obj [vb h0, vb h1, vb h2]] zN ?_
   refine wS (wTk ?_)
   refine wS (wB ?_)
   refine rSz [(0, .y (.one (sv NI b nil capd l))), (1, xi hand), (5, yp 0), (9, xi 1), (24, xi 1)] [.obj [vb h0, vb h1, vb h2]] zN ?_
   refine rSz [(0, .y (.one (sv NI b nil capd l))), (1, xi hand), (5, yp 0), (10, xi 2), (24, xi 1)] [.obj [vb h0, vb h1, vb h2]] (zL 2 (Jb (H := [.obj [vb h0, vb h1, vb h2]]) (s := NI) (b := b) (nil := nil) (capd := capd) (t := 22) (el := 3) (i := hand) Try.underlying22 (by kernel_rfl) (by kernel_rfl) (by omega) hx5)) ?_
   rcases Bool.eq_false_or_eq_true (h2) with c19 | c19
   ·
    refine rSz [(0, .y (.one (sv NI b nil capd l))), (1, xi hand), (5, yp 0), (10, xi 2), (24, xi 1), (36, xb true)] [.obj [vb h0, vb h1, vb h2]] (zL 2 (Ja (vals := [.y (.one (.ptr 0 2))]) (H := [.obj [vb h0, vb h1, vb h2]]) (op := .load 4 (.tmp 0)) (ty := 0) (r := xb h2) (v := xb true) (by kernel_rfl) (congrArg (fun z => xb z) (c19)))) ?_
    refine wTa ?_
    have hmz20 := mod_is (a := (hand + 1)) (b := (l.length : Int)) (by omega) (by omega)
    refine rSz [(6, xi 2), (7, xi ((hand + 1) % (l.length : Int))), (8, xi 0)] [.obj [vb h0, vb h1, vb h2]] (zA 2 (qoAdd [.obj [vb h0, vb h1, vb h2]] hand 1 (hand + 1)) (zL 5 (Jf (H := [.obj [vb h0, vb h1, vb h2]]) (t := 3) (u := 3) (ty := 0) (a := (hand + 1)) (b := (l.length : Int)) (by omega) (by omega)))) ?_
    refine wE ?_
    exact ⟨Or.inr rfl, [.one (vi 2), .one (vi ((hand + 1) % (l.length : Int))), .one (vi 0)], by kernel_rfl, (by have hp : nx l hand h0 h1 h2 = (2, ((hand + 1) % (l.length : Int)), 0) := by { unfold nx; rw [c1]; rw [if_neg (by decide), if_neg (by omega)]; rw [show at_ l hand = 1 from at_of hx5]; simp [hasW, c16, c19] }; rw [hp]; rfl)⟩
   refine rSz [(0, .y (.one (sv NI b nil capd l))), (1, xi hand), (5, yp 0), (10, xi 2), (24, xi 1), (36, xb false)] [.obj [vb h0, vb h1, vb h2]] (zL 2 (Ja (vals := [.y (.one (.ptr 0 2))]) (H := [.obj [vb h0, vb h1, vb h2]]) (op := .load 4 (.tmp 0)) (ty := 0) (r := xb h2) (v := xb false) (by kernel_rfl) (congrArg (fun z => xb z) (c19)))) ?_
   refine wFk ?_
   refine rRz [(0, .y (.one (sv NI b nil capd l))), (1, xi hand), (5, yp 0), (24, xi 2)] [.obj [vb h0, vb h1, vb h2]] zN ?_
   refine ⟨_, _, rfl, ?_⟩
   refine WpL.step ?_
   refine rSz [(0, .y (.one (sv NI b nil capd l))), (1, xi hand), (5, yp 0), (24, xi 2), (25, xb true)] [.obj [vb h0, vb h1, vb h2]] zN ?_
   refine wS (wTk ?_)
   refine wS (wB ?_)
   refine rSz [(0, .y (.one (sv NI b nil capd l))), (1, xi hand), (5, yp 0), (9, xi 2), (24, xi 2)] [.obj [vb h0, vb h1, vb h2]] zN ?_
   refine rSz [(0, .y (.one (sv NI b nil capd l))), (1, xi hand), (5, yp 0), (10, xi 0), (24, xi 2)] [.obj [vb h0, vb h1, vb h2]] (zL 2 (Jb (H := [.obj [vb h0, vb h1, vb h2]]) (s := NI) (b := b) (nil := nil) (capd := capd) (t := 22) (el := 3) (i := hand) Try.underlying22 (by kernel_rfl) (by kernel_rfl) (by omega) hx5)) ?_
   rcases Bool.eq_false_or_eq_true (h0) with c22 | c22
   ·
    refine rSz [(0, .y (.one (sv NI b nil capd l))), (1, xi hand), (5, yp 0), (10, xi 0), (24, xi 2), (36, xb true)] [.obj [vb h0, vb h1, vb h2]] (zL 2 (Ja (vals := [yp 0]) (H := [.obj [vb h0, vb h1, vb h2]]) (op := .load 4 (.tmp 0)) (ty := 0) (r := xb h0) (v := xb true) (by kernel_rfl) (congrArg (fun z => xb z) (c22)))) ?_
    refine wTa ?_
    have hmz23 := mod_is (a := (hand + 1)) (b := (l.length : Int)) (by omega) (by omega)
    refine rSz [(6, xi 0), (7, xi ((hand + 1) % (l.length : Int))), (8, xi 0)] [.obj [vb h0, vb h1, vb h2]] (zA 2 (qoAdd [.obj [vb h0, vb h1, vb h2]] hand 1 (hand + 1)) (zL 5 (Jf (H := [.obj [vb h0, vb h1, vb h2]]) (t := 3) (u := 3) (ty := 0) (a := (hand + 1)) (b := (l.length : Int)) (by omega) (by omega)))) ?_
    refine wE ?_
    exact ⟨Or.inr rfl, [.one (vi 0), .one (vi ((hand + 1) % (l.length : Int))), .one (vi 0)], by kernel_rfl, (by have hp : nx l hand h0 h1 h2 = (0, ((hand + 1) % (l.length : Int)), 0) := by { unfold nx; rw [c1]; rw [if_neg (by decide), if_neg (by omega)]; rw [show at_ l hand = 1 from at_of hx5]; simp [hasW, c22, c16, c19] }; rw [hp]; rfl)⟩
   refine rSz [(0, .y (.one (sv NI b nil capd l))), (1, xi hand), (5, yp 0), (10, xi 0), (24, xi 2), (36, xb false)] [.obj [vb h0, vb h1, vb h2]] (zL 2 (Ja (vals := [yp 0]) (H := [.obj [vb h0, vb h1, vb h2]]) (op := .load 4 (.tmp 0)) (ty := 0) (r := xb h0) (v := xb false) (by kernel_rfl) (congrArg (fun z => xb z) (c22)))) ?_
   refine wFk ?_
   refine rRz [(0, .y (.one (sv NI b nil capd l))), (1, xi hand), (5, yp 0), (24, xi 3)] [.obj [vb h0, vb h1, vb h2]] zN ?_
   refine ⟨_, _, rfl, ?_⟩
   refine WpL.step ?_
   refine rSz [(0, .y (.one (sv NI b nil capd l))), (1, xi hand), (5, yp 0), (24, xi 3), (25, xb false)] [.obj [vb h0, vb h1, vb h2]] zN ?_
   refine wS ?_
   refine wFa ?_
   refine wX ?_
   refine Eq.mpr (if_pos rfl) ?_
   refine rSz [(6, xi 0), (7, xi 0), (8, xi 3)] [.obj [vb h0, vb h1, vb h2]] zN ?_
   refine wE ?_
   exact ⟨Or.inr rfl, [.one (vi 0), .one (vi 0), .one (vi 3)], by kernel_rfl, (by have hp : nx l hand h0 h1 h2 = (0, 0, 3) := by { unfold nx; rw [c1]; rw [if_neg (by decide), if_neg (by omega)]; rw [show at_ l hand = 1 from at_of hx5]; simp [hasW, c22, c16, c19] }; rw [hp]; rfl)⟩
  rcases Bool.eq_false_or_eq_true (h2) with c25 | c25
  ·
   refine rSz [(0, .y (.one (sv NI b nil capd l))), (1, xi hand), (5, yp 0), (10, xi 2), (24, xi 0), (36, xb true)] [.obj [vb h0, vb h1, vb h2]] (zL 2 (Ja (vals := [.y (.one (.ptr 0 2))]) (H := [.obj [vb h0, vb h1, vb h2]]) (op := .load 4 (.tmp 0)) (ty := 0) (r := xb h2) (v := xb true) (by kernel_rfl) (congrArg (fun z => xb z) (c25)))) ?_
   refine wTa ?_
   have hmz26 := mod_is (a := (hand + 1)) (b := (l.length : Int)) (by omega) (by omega)
   refine rSz [(6, xi 2), (7, xi ((hand + 1) % (l.length : Int))), (8, xi 0)] [.obj [vb h0, vb h1, vb h2]] (zA 2 (qoAdd [.obj [vb h0, vb h1, vb h2]] hand 1 (hand + 1)) (zL 5 (Jf (H := [.obj [vb h0, vb h1, vb h2]]) (t := 3) (u := 3) (ty := 0) (a := (hand + 1)) (b := (l.length : Int)) (by omega) (by omega)))) ?_
   refine wE ?_
   exact ⟨Or.inr rfl, [.one (vi 2), .one (vi ((hand + 1) % (l.length : Int))), .one (vi 0)], by kernel_rfl, (by have hp : nx l hand h0 h1 h2 = (2, ((hand + 1) % (l.length : Int)), 0) := by { unfold nx; rw [c1]; rw [if_neg (by decide), if_neg (by omega)]; rw [show at_ l hand = 2 from at_of hx5]; simp [hasW, c25] }; rw [hp]; rfl)⟩
  refine rSz [(0, .y (.one (sv NI b nil capd l))), (1, xi hand), (5, yp 0), (10, xi 2), (24, xi 0), (36, xb false)] [.obj [vb h0, vb h1, vb h2]] (zL 2 (Ja (vals := [.y (.one (.ptr 0 2))]) (H := [.obj [vb h0, vb h1, vb h2]]) (op := .load 4 (.tmp 0)) (ty := 0) (r := xb h2) (v := xb false) (by kernel_rfl) (congrArg (fun z => xb z) (c25)))) ?_
  refine wFk ?_
  refine rRz [(0, .y (.one (sv NI b nil capd l))), (1, xi hand), (5, yp 0), (24, xi 1)] [.obj [vb h0, vb h1, vb h2]] zN ?_
  refine ⟨_, _, rfl, ?_⟩
  refine WpL.step ?_
  refine rSz [(0, .y (.one (sv NI b nil capd l))), (1, xi hand), (5, yp 0), (24, xi 1), (25, xb true)] [.obj [vb h0, vb h1, vb h2]] zN ?_
  refine wS (wTk ?_)
  refine wS (wB ?_)
  refine rSz [(0, .y (.one (sv NI b nil capd l))), (1, xi hand), (5, yp 0), (9, xi 1), (24, xi 1)] [.obj [vb h0, vb h1, vb h2]] zN ?_
  refine rSz [(0, .y (.one (sv NI b nil capd l))), (1, xi hand), (5, yp 0), (10, xi 0), (24, xi 1)] [.obj [vb h0, vb h1, vb h2]] (zL 2 (Jb (H := [.obj [vb h0, vb h1, vb h2]]) (s := NI) (b := b) (nil := nil) (capd := capd) (t := 22) (el := 3) (i := hand) Try.underlying22 (by kernel_rfl) (by kernel_rfl) (by omega) hx5)) ?_
  rcases Bool.eq_false_or_eq_true (h0) with c28 | c28
  ·
   refine rSz [(0, .y (.one (sv NI b nil capd l))), (1, xi hand), (5, yp 0), (10, xi 0), (24, xi 1), (36, xb true)] [.obj [vb h0, vb h1, vb h2]] (zL 2 (Ja (vals := [yp 0]) (H := [.obj [vb h0, vb h1, vb h2]]) (op := .load 4 (.tmp 0)) (ty := 0) (r := xb h0) (v := xb true) (by kernel_rfl) (congrArg (fun z => xb z) (c28)))) ?_
   refine wTa ?_
   have hmz29 := mod_is (a := (hand + 1)) (b := (l.length : Int)) (by omega) (by omega)
   refine rSz [(6, xi 0), (7, xi ((hand + 1) % (l.length : Int))), (8, xi 0)] [.obj [vb h0, vb h1, vb h2]] (zA 2 (qoAdd [.obj [vb h0, vb h1, vb h2]] hand 1 (hand + 1)) (zL 5 (Jf (H := [.obj [vb h0, vb h1, vb h2]]) (t := 3) (u := 3) (ty := 0) (a := (hand + 1)) (b := (l.length : Int)) (by omega) (by omega)))) ?_
   refine wE ?_
   exact ⟨Or.inr rfl, [.one (vi 0), .one (vi ((hand + 1) % (l.length : Int))), .one (vi 0)], by kernel_rfl, (by have hp : nx l hand h0 h1 h2 = (0, ((hand + 1) % (l.length : Int)), 0) := by { unfold nx; rw [c1]; rw [if_neg (by decide), if_neg (by omega)]; rw [show at_ l hand = 2 from at_of hx5]; simp [hasW, c28, c25] }; rw [hp]; rfl)⟩
  refine rSz [(0, .y (.one (sv NI b nil capd l))), (1, xi hand), (5, yp 0), (10, xi 0), (24, xi 1), (36, xb false)] [.obj [vb h0, vb h1, vb h2]] (zL 2 (Ja (vals := [yp 0]) (H := [.obj [vb h0, vb h1, vb h2]]) (op := .load 4 (.tmp 0)) (ty := 0) (r := xb h0) (v := xb false) (by kernel_rfl) (congrArg (fun z => xb z) (c28)))) ?_
  refine wFk ?_
  refine rRz [(0, .y (.one (sv NI b nil capd l))), (1, xi hand), (5, yp 0), (24, xi 2)] [.obj [vb h0, vb h1, vb h2]] zN ?_
  refine ⟨_, _, rfl, ?_⟩
  refine WpL.step ?_
  refine rSz [(0, .y (.one (sv NI b nil capd l))), (1, xi hand), (5, yp 0), (24, xi 2), (25, xb true)] [.obj [vb h0, vb h1, vb h2]] zN ?_
  refine wS (wTk ?_)
  refine wS (wB ?_)
  refine rSz [(0, .y (.one (sv NI b nil capd l))), (1, xi hand), (5, yp 0), (9, xi 2), (24, xi 2)] [.obj [vb h0, vb h1, vb h2]] zN ?_
  refine rSz [(0, .y (.one (sv NI b nil capd l))), (1, xi hand), (5, yp 0), (10, xi 1), (24, xi 2)] [.obj [vb h0, vb h1, vb h2]] (zL 2 (Jb (H := [.obj [vb h0, vb h1, vb h2]]) (s := NI) (b := b) (nil := nil) (capd := capd) (t := 22) (el := 3) (i := hand) Try.underlying22 (by kernel_rfl) (by kernel_rfl) (by omega) hx5)) ?_
  rcases Bool.eq_false_or_eq_true (h1) with c31 | c31
  ·
   refine rSz [(0, .y (.one (sv NI b nil capd l))), (1, xi hand), (5, yp 0), (10, xi 1), (24, xi 2), (36, xb true)] [.obj [vb h0, vb h1, vb h2]] (zL 2 (Ja (vals := [.y (.one (.ptr 0 1))]) (H := [.obj [vb h0, vb h1, vb h2]]) (op := .load 4 (.tmp 0)) (ty := 0) (r := xb h1) (v := xb true) (by kernel_rfl) (congrArg (fun z => xb z) (c31)))) ?_
   refine wTa ?_
   have hmz32 := mod_is (a := (hand + 1)) (b := (l.length : Int)) (by omega) (by omega)
   refine rSz [(6, xi 1), (7, xi ((hand + 1) % (l.length : Int))), (8, xi 0)] [.obj [vb h0, vb h1, vb h2]] (zA 2 (qoAdd [.obj [vb h0, vb h1, vb h2]] hand 1 (hand + 1)) (zL 5 (Jf (H := [.obj [vb h0, vb h1, vb h2]]) (t := 3) (u := 3) (ty := 0) (a := (hand + 1)) (b := (l.length : Int)) (by omega) (by omega)))) ?_
   refine wE ?_
   exact ⟨Or.inr rfl, [.one (vi 1), .one (vi ((hand + 1) % (l.length : Int))), .one (vi 0)], by kernel_rfl, (by have hp : nx l hand h0 h1 h2 = (1, ((hand + 1) % (l.length : Int)), 0) := by { unfold nx; rw [c1]; rw [if_neg (by decide), if_neg (by omega)]; rw [show at_ l hand = 2 from at_of hx5]; simp [hasW, c28, c31, c25] }; rw [hp]; rfl)⟩
  refine rSz [(0, .y (.one (sv NI b nil capd l))), (1, xi hand), (5, yp 0), (10, xi 1), (24, xi 2), (36, xb false)] [.obj [vb h0, vb h1, vb h2]] (zL 2 (Ja (vals := [.y (.one (.ptr 0 1))]) (H := [.obj [vb h0, vb h1, vb h2]]) (op := .load 4 (.tmp 0)) (ty := 0) (r := xb h1) (v := xb false) (by kernel_rfl) (congrArg (fun z => xb z) (c31)))) ?_
  refine wFk ?_
  refine rRz [(0, .y (.one (sv NI b nil capd l))), (1, xi hand), (5, yp 0), (24, xi 3)] [.obj [vb h0, vb h1, vb h2]] zN ?_
  refine ⟨_, _, rfl, ?_⟩
  refine WpL.step ?_
  refine rSz [(0, .y (.one (sv NI b nil capd l))), (1, xi hand), (5, yp 0), (24, xi 3), (25, xb false)] [.obj [vb h0, vb h1, vb h2]] zN ?_
  refine wS ?_
  refine wFa ?_
  refine wX ?_
  refine Eq.mpr (if_pos rfl) ?_
  refine rSz [(6, xi 0), (7, xi 0), (8, xi 3)] [.obj [vb h0, vb h1, vb h2]] zN ?_
  refine wE ?_
  exact ⟨Or.inr rfl, [.one (vi 0), .one (vi 0), .one (vi 3)], by kernel_rfl, (by have hp : nx l hand h0 h1 h2 = (0, 0, 3) := by { unfold nx; rw [c1]; rw [if_neg (by decide), if_neg (by omega)]; rw [show at_ l hand = 2 from at_of hx5]; simp [hasW, c28, c31, c25] }; rw [hp]; rfl)⟩
 refine rSz [(0, .y (.one (sv NI b nil capd l))), (1, xi hand), (5, yp 0), (11, xb true)] [.obj [vb h0, vb h1, vb h2]] (zL 1 (Jh (H := [.obj [vb h0, vb h1, vb h2]]) (g := 25) (x := .one (sv NI b nil capd l)) (res := [.one (vi 20)]) (by have := wcheck b nil capd l (by omega); rw [c1] at this; exact this) (by kernel_rfl) (by kernel_rfl))) ?_
 refine wTa ?_
 refine rSz [(6, xi 0), (7, xi 0), (8, xi 20)] [.obj [vb h0, vb h1, vb h2]] zN ?_
 refine wE ?_
 exact ⟨Or.inr rfl, [.one (vi 0), .one (vi 0), .one (vi 20)], by kernel_rfl, (by have hp : nx l hand h0 h1 h2 = (0, 0, 20) := by { unfold nx; rw [c1]; rfl }; rw [hp]; rfl)⟩
theorem rnext (b nil capd : Bool) (l : List Int) (hl : (l.length : Int) ≤ 4611686018427387904) (hand : Int) (h0 h1 h2 : Bool) : PureC pg an 35 [.one (sv NI b nil capd l), .one (vi hand), .agg [vb h0, vb h1, vb h2]] [.one (vi (nx l hand h0 h1 h2).1), .one (vi (nx l hand h0 h1 h2).2.1), .one (vi (nx l hand h0 h1 h2).2.2)] := by
 refine rOF Try.func35 rfl ?_
 refine rSz [(0, .y (.one (sv NI b nil capd l))), (1, xi hand), (5, yp 0)] [.obj [vb h0, vb h1, vb h2]] zN ?_
 refine wS ?_
 rcases Bool.eq_false_or_eq_true ((okW l)) with c1 | c1
 ·
  have hkz2 := okW_len c1
  refine rSz [(0, .y (.one (sv NI b nil capd l))), (1, xi hand), (5, yp 0), (13, xb false)] [.obj [vb h0, vb h1, vb h2]] (zL 1 (Jh (H := [.obj [vb h0, vb h1, vb h2]]) (g := 37) (x := .one (sv NI b nil capd l)) (res := [.one (vi 0)]) (by have := rcheck b nil capd l (by omega); rw [c1] at this; exact this) (by kernel_rfl) (by kernel_rfl))) ?_
  refine wFk ?_
  refine wS ?_
  by_cases c3 : (hand : Int) < 0
  ·
   refine rSz [(0, .y (.one (sv NI b nil capd l))), (1, xi hand), (5, yp 0), (21, xb true)] [.obj [vb h0, vb h1, vb h2]] (zL 1 (qlssT [.obj [vb h0, vb h1, vb h2]] hand 0)) ?_
   refine wTa ?_
   refine rSz [(6, xi 0), (7, xi 0), (8, xi 1)] [.obj [vb h0, vb h1, vb h2]] zN ?_
   refine wE ?_
   exact ⟨Or.inr rfl, [.one (vi 0), .one (vi 0), .one (vi 1)], by kernel_rfl, (by have hp : nx l hand h0 h1 h2 = (0, 0, 1) := by { unfold nx; rw [c1]; rw [if_neg (by decide), if_pos (by omega)] }; rw [hp]; rfl)⟩
  by_cases c4 : ((l.length : Int) : Int) ≤ hand
  ·
   refine rSz [(0, .y (.one (sv NI b nil capd l))), (1, xi hand), (5, yp 0), (21, xb true)] [.obj [vb h0, vb h1, vb h2]] (zA 1 (qlssF [.obj [vb h0, vb h1, vb h2]] hand 0) (zL 6 (qgeqT [.obj [vb h0, vb h1, vb h2]] hand (l.length : Int)))) ?_
   refine wTa ?_
   refine rSz [(6, xi 0), (7, xi 0), (8, xi 1)] [.obj [vb h0, vb h1, vb h2]] zN ?_
   refine wE ?_
   exact ⟨Or.inr rfl, [.one (vi 0), .one (vi 0), .one (vi 1)], by kernel_rfl, (by have hp : nx l hand h0 h1 h2 = (0, 0, 1) := by { unfold nx; rw [c1]; rw [if_neg (by decide), if_pos (by omega)] }; rw [hp]; rfl)⟩
  refine rSz [(0, .y (.one (sv NI b nil capd l))), (1, xi hand), (5, yp 0), (21, xb false)] [.obj [vb h0, vb h1, vb h2]] (zA 1 (qlssF [.obj [vb h0, vb h1, vb h2]] hand 0) (zL 6 (qgeqF [.obj [vb h0, vb h1, vb h2]] hand (l.length : Int)))) ?_
  refine wFk ?_
  refine wS ?_
  refine rSz [(0, .y (.one (sv NI b nil capd l))), (1, xi hand), (5, yp 0), (9, xi 0)] [.obj [vb h0, vb h1, vb h2]] zN ?_
  refine wB ?_
  refine Wp.loopU [(0, .y (.one (sv NI b nil capd l))), (1, xi hand), (5, yp 0), (9, xi 0)] (some ([0, 1, 5, 9], false)) 1 (by kernel_rfl) ?_
  refine WpL.step ?_
  refine wS ?_
  refine rSz [(0, .y (.one (sv NI b nil capd l))), (1, xi hand), (5, yp 0), (9, xi 0), (23, xb true)] [.obj [vb h0, vb h1, vb h2]] zN ?_
  refine wTk ?_
  refine wS (wB ?_)
  obtain ⟨x5, hx5⟩ : ∃ x, l[(hand : Int).toNat]? = some x := get_of (by omega)
  have hez6 := okW_elem c1 hx5
  refine rSz [(0, .y (.one (sv NI b nil capd l))), (1, xi hand), (5, yp 0), (9, xi 0), (10, xi (x5 % 3))] [.obj [vb h0, vb h1, vb h2]] (zA 2 (Jb (H := [.obj [vb h0, vb h1, vb h2]]) (s := NI) (b := b) (nil := nil) (capd := capd) (t := 22) (el := 3) (i := hand) Try.underlying22 (by kernel_rfl) (by kernel_rfl) (by omega) hx5) (zA 5 (qoAdd [.obj [vb h0, vb h1, vb h2]] x5 0 x5) (zL 6 (Ja (vals := [xi x5, xi 3]) (H := [.obj [vb h0, vb h1, vb h2]]) (op := .binOp .rem 3 (.tmp 0) (.tmp 1) 3) (ty := 0) (r := xi (Int.tmod x5 3)) (v := xi (x5 % 3)) (by kernel_rfl) (congrArg (fun z => xi z) (Int.tmod_eq_emod_of_nonneg (by omega))))))) ?_
  rcases (show x5 = 0 ∨ x5 = 1 ∨ x5 = 2 from by omega) with rfl | rfl | rfl
  ·
   rcases Bool.eq_false_or_eq_true (h0) with c7 | c7
   ·
    refine rSz [(0, .y (.one (sv NI b nil capd l))), (1, xi hand), (5, yp 0), (9, xi 0), (10, xi 0), (35, xb true)] [.obj [vb h0, vb h1, vb h2]] (zL 2 (Ja (vals := [yp 0]) (H := [.obj [vb h0, vb h1, vb h2]]) (op := .load 4 (.tmp 0)) (ty := 0) (r := xb h0) (v := xb true) (by kernel_rfl) (congrArg (fun z => xb z) (c7)))) ?_
    refine wTa ?_
    have hmz8 := mod_is (a := (hand + 1)) (b := (l.length : Int)) (by omega) (by omega)
    refine rSz [(6, xi 0), (7, xi ((hand + 1) % (l.length : Int))), (8, xi 0)] [.obj [vb h0, vb h1, vb h2]] (zA 2 (qoAdd [.obj [vb h0, vb h1, vb h2]] hand 1 (hand + 1)) (zL 5 (Jf (H := [.obj [vb h0, vb h1, vb h2]]) (t := 3) (u := 3) (ty := 0) (a := (hand + 1)) (b := (l.length : Int)) (by omega) (by omega)))) ?_
    refine wE ?_
    exact ⟨Or.inr rfl, [.one (vi 0), .one (vi ((hand + 1) % (l.length : Int))), .one (vi 0)], by kernel_rfl, (by have hp : nx l hand h0 h1 h2 = (0, ((hand + 1) % (l.length : Int)), 0) := by { unfold nx; rw [c1]; rw [if_neg (by decide), if_neg (by omega)]; rw [show at_ l hand = 0 from at_of hx5]; simp [hasW, c7] }; rw [hp]; rfl)⟩
   refine rSz [(0, .y (.one (sv NI b nil capd l))), (1, xi hand), (5, yp 0), (9, xi 0), (10, xi 0), (35, xb false)] [.obj [vb h0, vb h1, vb h2]] (zL 2 (Ja (vals := [yp 0]) (H := [.obj [vb h0, vb h1, vb h2]]) (op := .load 4 (.tmp 0)) (ty := 0) (r := xb h0) (v := xb false) (by kernel_rfl) (congrArg (fun z => xb z) (c7)))) ?_
   refine wFk ?_
   refine rRz [(0, .y (.one (sv NI b nil capd l))), (1, xi hand), (5, yp 0), (9, xi 1)] [.obj [vb h0, vb h1, vb h2]] zN ?_
   refine ⟨_, _, rfl, ?_⟩
   refine WpL.step ?_
   refine wS ?_
   refine rSz [(0, .y (.one (sv NI b nil capd l))), (1, xi hand), (5, yp 0), (9, xi 1), (23, xb true)] [.obj [vb h0, vb h1, vb h2]] zN ?_
   refine wTk ?_
   refine wS (wB ?_)
   refine rSz [(0, .y (.one (sv NI b nil capd l))), (1, xi hand), (5, yp 0), (9, xi 1), (10, xi 1)] [.obj [vb h0, vb h1, vb h2]] (zL 2 (Jb (H := [.obj [vb h0, vb h1, vb h2]]) (s := NI) (b := b) (nil := nil) (capd := capd) (t := 22) (el := 3) (i := hand) Try.underlying22 (by kernel_rfl) (by kernel_rfl) (by omega) hx5)) ?_
   rcases Bool.eq_false_or_eq_true (h1) with c10 | c10
   ·
    refine rSz [(0, .y (.one (sv NI b nil capd l))), (1, xi hand), (5, yp 0), (9, xi 1), (10, xi 1), (35, xb true)] [.obj [vb h0, vb h1, vb h2]] (zL 2 (Ja (vals := [.y (.one (.ptr 0 1))]) (H := [.obj [vb h0, vb h1, vb h2]]) (op := .load 4 (.tmp 0)) (ty := 0) (r := xb h1) (v := xb true) (by kernel_rfl) (congrArg (fun z => xb z) (c10)))) ?_
    refine wTa ?_
    have hmz11 := mod_is (a := (hand + 1)) (b := (l.length : Int)) (by omega) (by omega)
    refine rSz [(6, xi 1), (7, xi ((hand + 1) % (l.length : Int))), (8, xi 0)] [.obj [vb h0, vb h1, vb h2]] (zA 2 (qoAdd [.obj [vb h0, vb h1, vb h2]] hand 1 (hand + 1)) (zL 5 (Jf (H := [.obj [vb h0, vb h1, vb h2]]) (t := 3) (u := 3) (ty := 0) (a := (hand + 1)) (b := (l.length : Int)) (by omega) (by omega)))) ?_
    refine wE ?_
    exact ⟨Or.inr rfl, [.one (vi 1), .one (vi ((hand + 1) % (l.length : Int))), .one (vi 0)], by kernel_rfl, (by have hp : nx l hand h0 h1 h2 = (1, ((hand + 1) % (l.length : Int)), 0) := by { unfold nx; rw [c1]; rw [if_neg (by decide), if_neg (by omega)]; rw [show at_ l hand = 0 from at_of hx5]; simp [hasW, c7, c10] }; rw [hp]; rfl)⟩
   refine rSz [(0, .y (.one (sv NI b nil capd l))), (1, xi hand), (5, yp 0), (9, xi 1), (10, xi 1), (35, xb false)] [.obj [vb h0, vb h1, vb h2]] (zL 2 (Ja (vals := [.y (.one (.ptr 0 1))]) (H := [.obj [vb h0, vb h1, vb h2]]) (op := .load 4 (.tmp 0)) (ty := 0) (r := xb h1) (v := xb false) (by kernel_rfl) (congrArg (fun z => xb z) (c10)))) ?_
   refine wFk ?_
   refine rRz [(0, .y (.one (sv NI b nil capd l))), (1, xi hand), (5, yp 0), (9, xi 2)] [.obj [vb h0, vb h1, vb h2]] zN ?_
   refine ⟨_, _, rfl, ?_⟩
   refine WpL.step ?_
   refine wS ?_
   refine rSz [(0, .y (.one (sv NI b nil capd l))), (1, xi hand), (5, yp 0), (9, xi 2), (23, xb true)] [.obj [vb h0, vb h1, vb h2]] zN ?_
   refine wTk ?_
   refine wS (wB ?_)
   refine rSz [(0, .y (.one (sv NI b nil capd l))), (1, xi hand), (5, yp 0), (9, xi 2), (10, xi 2)] [.obj [vb h0, vb h1, vb h2]] (zL 2 (Jb (H := [.obj [vb h0, vb h1, vb h2]]) (s := NI) (b := b) (nil := nil) (capd := capd) (t := 22) (el := 3) (i := hand) Try.underlying22 (by kernel_rfl) (by kernel_rfl) (by omega) hx5)) ?_
   rcases Bool.eq_false_or_eq_true (h2) with c13 | c13
   ·
    refine rSz [(0, .y (.one (sv NI b nil capd l))), (1, xi hand), (5, yp 0), (9, xi 2), (10, xi 2), (35, xb true)] [.obj [vb h0, vb h1, vb h2]] (zL 2 (Ja (vals := [.y (.one (.ptr 0 2))]) (H := [.obj [vb h0, vb h1, vb h2]]) (op := .load 4 (.tmp 0)) (ty := 0) (r := xb h2) (v := xb true) (by kernel_rfl) (congrArg (fun z => xb z) (c13)))) ?_
    refine wTa ?_
    have hmz14 := mod_is (a := (hand + 1)) (b := (l.length : Int)) (by omega) (by omega)
    refine rSz [(6, xi 2), (7, xi ((hand + 1) % (l.length : Int))), (8, xi 0)] [.obj [vb h0, vb h1, vb h2]] (zA 2 (qoAdd [.obj [vb h0, vb h1, vb h2]] hand 1 (hand + 1)) (zL 5 (Jf (H := [.obj [vb h0, vb h1, vb h2]]) (t := 3) (u := 3) (ty := 0) (a := (hand + 1)) (b := (l.length : Int)) (by omega) (by omega)))) ?_
    refine wE ?_
    exact ⟨Or.inr rfl, [.one (vi 2), .one (vi ((hand + 1) % (l.length : Int))), .one (vi 0)], by kernel_rfl, (by have hp : nx l hand h0 h1 h2 = (2, ((hand + 1) % (l.length : Int)), 0) := by { unfold nx; rw [c1]; rw [if_neg (by decide), if_neg (by omega)]; rw [show at_ l hand = 0 from at_of hx5]; simp [hasW, c7, c10, c13] }; rw [hp]; rfl)⟩
   refine rSz [(0, .y (.one (sv NI b nil capd l))), (1, xi hand), (5, yp 0), (9, xi 2), (10, xi 2), (35, xb false)] [.obj [vb h0, vb h1, vb h2]] (zL 2 (Ja (vals := [.y (.one (.ptr 0 2))]) (H := [.obj [vb h0, vb h1, vb h2]]) (op := .load 4 (.tmp 0)) (ty := 0) (r := xb h2) (v := xb false) (by kernel_rfl) (congrArg (fun z => xb z) (c13)))) ?_
   refine wFk ?_
   refine rRz [(0, .y (.one (sv NI b nil capd l))), (1, xi hand), (5, yp 0), (9, xi 3)] [.obj [vb h0, vb h1, vb h2]] zN ?_
   refine ⟨_, _, rfl, ?_⟩
   refine WpL.step ?_
   refine wS ?_
   refine rSz [(0, .y (.one (sv NI b nil capd l))), (1, xi hand), (5, yp 0), (9, xi 3), (23, xb false)] [.obj [vb h0, vb h1, vb h2]] zN ?_
   refine wFa ?_
   refine wX ?_
   refine Eq.mpr (if_pos rfl) ?_
   refine rSz [(6, xi 0), (7, xi 0), (8, xi 3)] [.obj [vb h0, vb h1, vb h2]] zN ?_
   refine wE ?_
   exact ⟨Or.inr rfl, [.one (vi 0), .one (vi 0), .one (vi 3)], by kernel_rfl, (by have hp : nx l hand h0 h1 h2 = (0, 0, 3) := by { unfold nx; rw [c1]; rw [if_neg (by decide), if_neg (by omega)]; rw [show at_ l hand = 0 from at_of hx5]; simp [hasW, c7, c10, c13] }; rw [hp]; rfl)⟩
  ·
   rcases Bool.eq_false_or_eq_true (h1) with c16 | c16
   ·
    refine rSz [(0, .y (.one (sv NI b nil capd l))), (1, xi hand), (5, yp 0), (9, xi 0), (10, xi 1), (35, xb true)] [.obj [vb h0, vb h1, vb h2]] (zL 2 (Ja (vals := [.y (.one (.ptr 0 1))]) (H := [.obj [vb h0, vb h1, vb h2]]) (op := .load 4 (.tmp 0)) (ty := 0) (r := xb h1) (v := xb true) (by kernel_rfl) (congrArg (fun z => xb z) (c16)))) ?_
    refine wTa ?_
    have hmz17 := mod_is (a := (hand + 1)) (b := (l.length : Int)) (by omega) (by omega)
    refine rSz [(6, xi 1), (7, xi ((hand + 1) % (l.length : Int))), (8, xi 0)] [.obj [vb h0, vb h1, vb h2]] (zA 2 (qoAdd [.obj [vb h0, vb h1, vb h2]] hand 1 (hand + 1)) (zL 5 (Jf (H := [.obj [vb h0, vb h1, vb h2]]) (t := 3) (u := 3) (ty := 0) (a := (hand + 1)) (b := (l.length : Int)) (by omega) (by omega)))) ?_
    refine wE ?_
    exact ⟨Or.inr rfl, [.one (vi 1), .one (vi ((hand + 1) % (l.length : Int))), .one (vi 0)], by kernel_rfl, (by have hp : nx l hand h0 h1 h2 = (1, ((hand + 1) % (l.length : Int)), 0) := by { unfold nx; rw [c1]; rw [if_neg (by decide), if_neg (by omega)]; rw [show at_ l hand = 1 from at_of hx5]; simp [hasW, c16] }; rw [hp]; rfl)⟩
   refine rSz [(0, .y (.one (sv NI b nil capd l))), (1, xi hand), (5, yp 0), (9, xi 0), (10, xi 1), (35, xb false)] [.obj [vb h0, vb h1, vb h2]] (zL 2 (Ja (vals := [.y (.one (.ptr 0 1))]) (H := [.obj [vb h0, vb h1, vb h2]]) (op := .load 4 (.tmp 0)) (ty := 0) (r := xb h1) (v := xb false) (by kernel_rfl) (congrArg (fun z => xb z) (c16)))) ?_
   refine wFk ?_
   refine rRz [(0, .y (.one (sv NI b nil capd l))), (1, xi hand), (5, yp 0), (9, xi 1)] [.obj [vb h0, vb h1, vb h2]] zN ?_
   refine ⟨_, _, rfl, ?_⟩
   refine WpL.step ?_
   refine wS ?_
   refine rSz [(0, .y (.one (sv NI b nil capd l))), (1, xi hand), (5, yp 0), (9, xi 1), (23, xb true)] [.obj [vb h0, vb h1, vb h2]] zN ?_
   refine wTk ?_
   refine wS (wB ?_)
   refine rSz [(0, .y (.one (sv NI b nil capd l))), (1, xi hand), (5, yp 0), (9, xi 1), (10, xi 2)] [.obj [vb h0, vb h1, vb h2]] (zL 2 (Jb (H := [.obj [vb h0, vb h1, vb h2]]) (s := NI) (b := b) (nil := nil) (capd := capd) (t := 22) (el := 3) (i := hand) Try.underlying22 (by kernel_rfl) (by kernel_rfl) (by omega) hx5)) ?_
   rcases Bool.eq_false_or_eq_true (h2) with c19 | c19
   ·
    refine rSz [(0, .y (.one (sv NI b nil capd l))), (1, xi hand), (5, yp 0), (9, xi 1), (10, xi 2), (35, xb true)] [.obj [vb h0, vb h1, vb h2]] (zL 2 (Ja (vals := [.y (.one (.ptr 0 2))]) (H := [.obj [vb h0, vb h1, vb h2]]) (op := .load 4 (.tmp 0)) (ty := 0) (r := xb h2) (v := xb true) (by kernel_rfl) (congrArg (fun z => xb z) (c19)))) ?_
    refine wTa ?_
    have hmz20 := mod_is (a := (hand + 1)) (b := (l.length : Int)) (by omega) (by omega)
    refine rSz [(6, xi 2), (7, xi ((hand + 1) % (l.length : Int))), (8, xi 0)] [.obj [vb h0, vb h1, vb h2]] (zA 2 (qoAdd [.obj [vb h0, vb h1, vb h2]] hand 1 (hand + 1)) (zL 5 (Jf (H := [.obj [vb h0, vb h1, vb h2]]) (t := 3) (u := 3) (ty := 0) (a := (hand + 1)) (b := (l.length : Int)) (by omega) (by omega)))) ?_
    refine wE ?_
    exact ⟨Or.inr rfl, [.one (vi 2), .one (vi ((hand + 1) % (l.length : Int))), .one (vi 0)], by kernel_rfl, (by have hp : nx l hand h0 h1 h2 = (2, ((hand + 1) % (l.length : Int)), 0) := by { unfold nx; rw [c1]; rw [if_neg (by decide), if_neg (by omega)]; rw [show at_ l hand = 1 from at_of hx5]; simp [hasW, c16, c19] }; rw [hp]; rfl)⟩
   refine rSz [(0, .y (.one (sv NI b nil capd l))), (1, xi hand), (5, yp 0), (9, xi 1), (10, xi 2), (35, xb false)] [.obj [vb h0, vb h1, vb h2]] (zL 2 (Ja (vals := [.y (.one (.ptr 0 2))]) (H := [.obj [vb h0, vb h1, vb h2]]) (op := .load 4 (.tmp 0)) (ty := 0) (r := xb h2) (v := xb false) (by kernel_rfl) (congrArg (fun z => xb z) (c19)))) ?_
   refine wFk ?_
   refine rRz [(0, .y (.one (sv NI b nil capd l))), (1, xi hand), (5, yp 0), (9, xi 2)] [.obj [vb h0, vb h1, vb h2]] zN ?_
   refine ⟨_, _, rfl, ?_⟩
   refine WpL.step ?_
   refine wS ?_
   refine rSz [(0, .y (.one (sv NI b nil capd l))), (1, xi hand), (5, yp 0), (9, xi 2), (23, xb true)] [.obj [vb h0, vb h1, vb h2]] zN ?_
   refine wTk ?_
   refine wS (wB ?_)
   refine rSz [(0, .y (.one (sv NI b nil capd l))), (1, xi hand), (5, yp 0), (9, xi 2), (10, xi 0)] [.obj [vb h0, vb h1, vb h2]] (zL 2 (Jb (H := [.obj [vb h0, vb h1, vb h2]]) (s := NI) (b := b) (nil := nil) (capd := capd) (t := 22) (el := 3) (i := hand) Try.underlying22 (by kernel_rfl) (by kernel_rfl) (by omega) hx5)) ?_
   rcases Bool.eq_false_or_eq_true (h0) with c22 | c22
   ·
    refine rSz [(0, .y (.one (sv NI b nil capd l))), (1, xi hand), (5, yp 0), (9, xi 2), (10, xi 0), (35, xb true)] [.obj [vb h0, vb h1, vb h2]] (zL 2 (Ja (vals := [yp 0]) (H := [.obj [vb h0, vb h1, vb h2]]) (op := .load 4 (.tmp 0)) (ty := 0) (r := xb h0) (v := xb true) (by kernel_rfl) (congrArg (fun z => xb z) (c22)))) ?_
    refine wTa ?_
    have hmz23 := mod_is (a := (hand + 1)) (b := (l.length : Int)) (by omega) (by omega)
    refine rSz [(6, xi 0), (7, xi ((hand + 1) % (l.length : Int))), (8, xi 0)] [.obj [vb h0, vb h1, vb h2]] (zA 2 (qoAdd [.obj [vb h0, vb h1, vb h2]] hand 1 (hand + 1)) (zL 5 (Jf (H := [.obj [vb h0, vb h1, vb h2]]) (t := 3) (u := 3) (ty := 0) (a := (hand + 1)) (b := (l.length : Int)) (by omega) (by omega)))) ?_
    refine wE ?_
    exact ⟨Or.inr rfl, [.one (vi 0), .one (vi ((hand + 1) % (l.length : Int))), .one (vi 0)], by kernel_rfl, (by have hp : nx l hand h0 h1 h2 = (0, ((hand + 1) % (l.length : Int)), 0) := by { unfold nx; rw [c1]; rw [if_neg (by decide), if_neg (by omega)]; rw [show at_ l hand = 1 from at_of hx5]; simp [hasW, c22, c16, c19] }; rw [hp]; rfl)⟩
   refine rSz [(0, .y (.one (sv NI b nil capd l))), (1, xi hand), (5, yp 0), (9, xi 2), (10, xi 0), (35, xb false)] [.obj [vb h0, vb h1, vb h2]] (zL 2 (Ja (vals := [yp 0]) (H := [.obj [vb h0, vb h1, vb h2]]) (op := .load 4 (.tmp 0)) (ty := 0) (r := xb h0) (v := xb false) (by kernel_rfl) (congrArg (fun z => xb z) (c22)))) ?_
   refine wFk ?_
   refine rRz [(0, .y (.one (sv NI b nil capd l))), (1, xi hand), (5, yp 0), (9, xi 3)] [.obj [vb h0, vb h1, vb h2]] zN ?_
   refine ⟨_, _, rfl, ?_⟩
   refine WpL.step ?_
   refine wS ?_
   refine rSz [(0, .y (.one (sv NI b nil capd l))), (1, xi hand), (5, yp 0), (9, xi 3), (23, xb false)] [.obj [vb h0, vb h1, vb h2]] zN ?_
   refine wFa ?_
   refine wX ?_
   refine Eq.mpr (if_pos rfl) ?_
   refine rSz [(6, xi 0), (7, xi 0), (8, xi 3)] [.obj [vb h0, vb h1, vb h2]] zN ?_
   refine wE ?_
   exact ⟨Or.inr rfl, [.one (vi 0), .one (vi 0), .one (vi 3)], by kernel_rfl, (by have hp : nx l hand h0 h1 h2 = (0, 0, 3) := by { unfold nx; rw [c1]; rw [if_neg (by decide), if_neg (by omega)]; rw [show at_ l hand = 1 from at_of hx5]; simp [hasW, c22, c16, c19] }; rw [hp]; rfl)⟩
  rcases Bool.eq_false_or_eq_true (h2) with c25 | c25
  ·
   refine rSz [(0, .y (.one (sv NI b nil capd l))), (1, xi hand), (5, yp 0), (9, xi 0), (10, xi 2), (35, xb true)] [.obj [vb h0, vb h1, vb h2]] (zL 2 (Ja (vals := [.y (.one (.ptr 0 2))]) (H := [.obj [vb h0, vb h1, vb h2]]) (op := .load 4 (.tmp 0)) (ty := 0) (r := xb h2) (v := xb true) (by kernel_rfl) (congrArg (fun z => xb z) (c25)))) ?_
   refine wTa ?_
   have hmz26 := mod_is (a := (hand + 1)) (b := (l.length : Int)) (by omega) (by omega)
   refine rSz [(6, xi 2), (7, xi ((hand + 1) % (l.length : Int))), (8, xi 0)] [.obj [vb h0, vb h1, vb h2]] (zA 2 (qoAdd [.obj [vb h0, vb h1, vb h2]] hand 1 (hand + 1)) (zL 5 (Jf (H := [.obj [vb h0, vb h1, vb h2]]) (t := 3) (u := 3) (ty := 0) (a := (hand + 1)) (b := (l.length : Int)) (by omega) (by omega)))) ?_
   refine wE ?_
   exact ⟨Or.inr rfl, [.one (vi 2), .one (vi ((hand + 1) % (l.length : Int))), .one (vi 0)], by kernel_rfl, (by have hp : nx l hand h0 h1 h2 = (2, ((hand + 1) % (l.length : Int)), 0) := by { unfold nx; rw [c1]; rw [if_neg (by decide), if_neg (by omega)]; rw [show at_ l hand = 2 from at_of hx5]; simp [hasW, c25] }; rw [hp]; rfl)⟩
  refine rSz [(0, .y (.one (sv NI b nil capd l))), (1, xi hand), (5, yp 0), (9, xi 0), (10, xi 2), (35, xb false)] [.obj [vb h0, vb h1, vb h2]] (zL 2 (Ja (vals := [.y (.one (.ptr 0 2))]) (H := [.obj [vb h0, vb h1, vb h2]]) (op := .load 4 (.tmp 0)) (ty := 0) (r := xb h2) (v := xb false) (by kernel_rfl) (congrArg (fun z => xb z) (c25)))) ?_
  refine wFk ?_
  refine rRz [(0, .y (.one (sv NI b nil capd l))), (1, xi hand), (5, yp 0), (9, xi 1)] [.obj [vb h0, vb h1, vb h2]] zN ?_
  refine ⟨_, _, rfl, ?_⟩
  refine WpL.step ?_
  refine wS ?_
  refine rSz [(0, .y (.one (sv NI b nil capd l))), (1, xi hand), (5, yp 0), (9, xi 1), (23, xb true)] [.obj [vb h0, vb h1, vb h2]] zN ?_
  refine wTk ?_
  refine wS (wB ?_)
  refine rSz [(0, .y (.one (sv NI b nil capd l))), (1, xi hand), (5, yp 0), (9, xi 1), (10, xi 0)] [.obj [vb h0, vb h1, vb h2]] (zL 2 (Jb (H := [.obj [vb h0, vb h1, vb h2]]) (s := NI) (b := b) (nil := nil) (capd := capd) (t := 22) (el := 3) (i := hand) Try.underlying22 (by kernel_rfl) (by kernel_rfl) (by omega) hx5)) ?_
  rcases Bool.eq_false_or_eq_true (h0) with c28 | c28
  ·
   refine rSz [(0, .y (.one (sv NI b nil capd l))), (1, xi hand), (5, yp 0), (9, xi 1), (10, xi 0), (35, xb true)] [.obj [vb h0, vb h1, vb h2]] (zL 2 (Ja (vals := [yp 0]) (H := [.obj [vb h0, vb h1, vb h2]]) (op := .load 4 (.tmp 0)) (ty := 0) (r := xb h0) (v := xb true) (by kernel_rfl) (congrArg (fun z => xb z) (c28)))) ?_
   refine wTa ?_
   have hmz29 := mod_is (a := (hand + 1)) (b := (l.length : Int)) (by omega) (by omega)
   refine rSz [(6, xi 0), (7, xi ((hand + 1) % (l.length : Int))), (8, xi 0)] [.obj [vb h0, vb h1, vb h2]] (zA 2 (qoAdd [.obj [vb h0, vb h1, vb h2]] hand 1 (hand + 1)) (zL 5 (Jf (H := [.obj [vb h0, vb h1, vb h2]]) (t := 3) (u := 3) (ty := 0) (a := (hand + 1)) (b := (l.length : Int)) (by omega) (by omega)))) ?_
   refine wE ?_
   exact ⟨Or.inr rfl, [.one (vi 0), .one (vi ((hand + 1) % (l.length : Int))), .one (vi 0)], by kernel_rfl, (by have hp : nx l hand h0 h1 h2 = (0, ((hand + 1) % (l.length : Int)), 0) := by { unfold nx; rw [c1]; rw [if_neg (by decide), if_neg (by omega)]; rw [show at_ l hand = 2 from at_of hx5]; simp [hasW, c28, c25] }; rw [hp]; rfl)⟩
  refine rSz [(0, .y (.one (sv NI b nil capd l))), (1, xi hand), (5, yp 0), (9, xi 1), (10, xi 0), (35, xb false)] [.obj [vb h0, vb h1, vb h2]] (zL 2 (Ja (vals := [yp 0]) (H := [.obj [vb h0, vb h1, vb h2]]) (op := .load 4 (.tmp 0)) (ty := 0) (r := xb h0) (v := xb false) (by kernel_rfl) (congrArg (fun z => xb z) (c28)))) ?_
  refine wFk ?_
  refine rRz [(0, .y (.one (sv NI b nil capd l))), (1, xi hand), (5, yp 0), (9, xi 2)] [.obj [vb h0, vb h1, vb h2]] zN ?_
  refine ⟨_, _, rfl, ?_⟩
  refine WpL.step ?_
  refine wS ?_
  refine rSz [(0, .y (.one (sv NI b nil capd l))), (1, xi hand), (5, yp 0), (9, xi 2), (23, xb true)] [.obj [vb h0, vb h1, vb h2]] zN ?_
  refine wTk ?_
  refine wS (wB ?_)
  refine rSz [(0, .y (.one (sv NI b nil capd l))), (1, xi hand), (5, yp 0), (9, xi 2), (10, xi 1)] [.obj [vb h0, vb h1, vb h2]] (zL 2 (Jb (H := [.obj [vb h0, vb h1, vb h2]]) (s := NI) (b := b) (nil := nil) (capd := capd) (t := 22) (el := 3) (i := hand) Try.underlying22 (by kernel_rfl) (by kernel_rfl) (by omega) hx5)) ?_
  rcases Bool.eq_false_or_eq_true (h1) with c31 | c31
  ·
   refine rSz [(0, .y (.one (sv NI b nil capd l))), (1, xi hand), (5, yp 0), (9, xi 2), (10, xi 1), (35, xb true)] [.obj [vb h0, vb h1, vb h2]] (zL 2 (Ja (vals := [.y (.one (.ptr 0 1))]) (H := [.obj [vb h0, vb h1, vb h2]]) (op := .load 4 (.tmp 0)) (ty := 0) (r := xb h1) (v := xb true) (by kernel_rfl) (congrArg (fun z => xb z) (c31)))) ?_
   refine wTa ?_
   have hmz32 := mod_is (a := (hand + 1)) (b := (l.length : Int)) (by omega) (by omega)
   refine rSz [(6, xi 1), (7, xi ((hand + 1) % (l.length : Int))), (8, xi 0)] [.obj [vb h0, vb h1, vb h2]] (zA 2 (qoAdd [.obj [vb h0, vb h1, vb h2]] hand 1 (hand + 1)) (zL 5 (Jf (H := [.obj [vb h0, vb h1, vb h2]]) (t := 3) (u := 3) (ty := 0) (a := (hand + 1)) (b := (l.length : Int)) (by omega) (by omega)))) ?_
   refine wE ?_
   exact ⟨Or.inr rfl, [.one (vi 1), .one (vi ((hand + 1) % (l.length : Int))), .one (vi 0)], by kernel_rfl, (by have hp : nx l hand h0 h1 h2 = (1, ((hand + 1) % (l.length : Int)), 0) := by { unfold nx; rw [c1]; rw [if_neg (by decide), if_neg (by omega)]; rw [show at_ l hand = 2 from at_of hx5]; simp [hasW, c28, c31, c25] }; rw [hp]; rfl)⟩
  refine rSz [(0, .y (.one (sv NI b nil capd l))), (1, xi hand), (5, yp 0), (9, xi 2), (10, xi 1), (35, xb false)] [.obj [vb h0, vb h1, vb h2]] (zL 2 (Ja (vals := [.y (.one (.ptr 0 1))]) (H := [.obj [vb h0, vb h1, vb h2]]) (op := .load 4 (.tmp 0)) (ty := 0) (r := xb h1) (v := xb false) (by kernel_rfl) (congrArg (fun z => xb z) (c31)))) ?_
  refine wFk ?_
  refine rRz [(0, .y (.one (sv NI b nil capd l))), (1, xi hand), (5, yp 0), (9, xi 3)] [.obj [vb h0, vb h1, vb h2]] zN ?_
  refine ⟨_, _, rfl, ?_⟩
  refine WpL.step ?_
  refine wS ?_
  refine rSz [(0, .y (.one (sv NI b nil capd l))), (1, xi hand), (5, yp 0), (9, xi 3), (23, xb false)] [.obj [vb h0, vb h1, vb h2]] zN ?_
  refine wFa ?_
  refine wX ?_
  refine Eq.mpr (if_pos rfl) ?_
  refine rSz [(6, xi 0), (7, xi 0), (8, xi 3)] [.obj [vb h0, vb h1, vb h2]] zN ?_
  refine wE ?_
  exact ⟨Or.inr rfl, [.one (vi 0), .one (vi 0), .one (vi 3)], by kernel_rfl, (by have hp : nx l hand h0 h1 h2 = (0, 0, 3) := by { unfold nx; rw [c1]; rw [if_neg (by decide), if_neg (by omega)]; rw [show at_ l hand = 2 from at_of hx5]; simp [hasW, c28, c31, c25] }; rw [hp]; rfl)⟩
 refine rSz [(0, .y (.one (sv NI b nil capd l))), (1, xi hand), (5, yp 0), (13, xb true)] [.obj [vb h0, vb h1, vb h2]] (zL 1 (Jh (H := [.obj [vb h0, vb h1, vb h2]]) (g := 37) (x := .one (sv NI b nil capd l)) (res := [.one (vi 20)]) (by have := rcheck b nil capd l (by omega); rw [c1] at this; exact this) (by kernel_rfl) (by kernel_rfl))) ?_
 refine wTa ?_
 refine rSz [(6, xi 0), (7, xi 0), (8, xi 20)] [.obj [vb h0, vb h1, vb h2]] zN ?_
 refine wE ?_
 exact ⟨Or.inr rfl, [.one (vi 0), .one (vi 0), .one (vi 20)], by kernel_rfl, (by have hp : nx l hand h0 h1 h2 = (0, 0, 20) := by { unfold nx; rw [c1]; rfl }; rw [hp]; rfl)⟩
end Go.Proofs.Ytjdnhbnpdbpgbaa
