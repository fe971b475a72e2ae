/- Lemmas. -/
import Derived.Test.YtoidoeappihplaaR19SG
import Derived.Test.YtoidoeappihplaaR19SH
namespace Go.Proofs.Ytoidoeappihplaa
open Go.Lg
set_option linter.unusedVariables false
set_option maxRecDepth 100000
set_option maxHeartbeats 8000000
set_option linter.unusedSimpArgs false
def tail : List EN.T → Nat
  | [] => 0
  | x :: l => if x.2.1 then 0 else tail l + 1
def free (l : List EN.T) : Nat := tail l.reverse
theorem free_snoc (l : List EN.T) (x : EN.T) : free (l ++ [x]) = if x.2.1 then 0 else free l + 1 := by simp [free, tail]
theorem free_take {l : List EN.T} {i : Int} {x : EN.T} (h : 0 ≤ i) (hx : l[i.toNat]? = some x) : free (l.take (i + 1).toNat) = if x.2.1 then 0 else free (l.take i.toNat) + 1 := by
  rw [show (i + 1).toNat = i.toNat + 1 by omega, ← free_snoc, List.take_add_one, hx]; rfl
theorem free_le (l : List EN.T) : free l ≤ l.length := by
  unfold free
  rw [← List.length_reverse]
  generalize l.reverse = r
  induction r with
  | nil => simp [tail]
  | cons x r ih => simp only [tail, List.length_cons]; split <;> omega
def half (l : List EN.T) : Int := (free l : Int) / 2 + (free l : Int) % 2
theorem half_is (l : List EN.T) : 2 * half l ≤ (free l : Int) + 1 ∧ (free l : Int) ≤ 2 * half l ∧ (free l : Int) ≤ (l.length : Int) ∧ 0 ≤ (free l : Int) := by
  have := free_le l
  unfold half
  omega
def ahead : List EN.T → Bool
  | x :: y :: r => if y.2.1 && !x.2.1 then false else ahead (y :: r)
  | _ => true
def pick (k h r : Int) (rest : Int × Int × Int) : Int × Int × Int := if r < h then (if 0 < r then (k, r, 0) else rest) else (if 0 < h then (k, h, 0) else rest)
def plan (h0 h1 h2 r0 r1 r2 : Int) : Int × Int × Int :=
  if r0 < 0 then (0, 0, 1) else if r1 < 0 then (0, 0, 1) else if r2 < 0 then (0, 0, 1) else pick 0 h0 r0 (pick 1 h1 r1 (pick 2 h2 r2 (0, 0, 3)))
theorem fn13 : PureC pg an 13 [] [.one (vb true)] := pure_of 400 (by kernel_rfl)
theorem plan_cases {h0 h1 h2 r0 r1 r2 : Int} (h : 0 ≤ r0 ∧ 0 ≤ r1 ∧ 0 ≤ r2) : plan h0 h1 h2 r0 r1 r2 = (0, 0, 3) ∨ (∃ n, 0 < n ∧ n ≤ h0 ∧ n ≤ r0 ∧ plan h0 h1 h2 r0 r1 r2 = (0, n, 0)) ∨
    (∃ n, 0 < n ∧ n ≤ h1 ∧ n ≤ r1 ∧ plan h0 h1 h2 r0 r1 r2 = (1, n, 0)) ∨ (∃ n, 0 < n ∧ n ≤ h2 ∧ n ≤ r2 ∧ plan h0 h1 h2 r0 r1 r2 = (2, n, 0)) := by
  unfold plan pick
  rw [if_neg (by omega), if_neg (by omega), if_neg (by omega)]
  repeat' split
  all_goals first
  | exact .inl rfl
  | exact .inr (.inl ⟨_, by omega, by omega, by omega, rfl⟩)
  | exact .inr (.inr (.inl ⟨_, by omega, by omega, by omega, rfl⟩))
  | exact .inr (.inr (.inr ⟨_, by omega, by omega, by omega, rfl⟩))
theorem half_len {l : List EN.T} {n : Int} (h0 : 0 < n) (h : n ≤ half l) : n ≤ (l.length : Int) := by
  have := half_is l
  omega
theorem On.ne {cs : List HP} {H : HH} {a b : Nat} {o o' : O} (h : On cs H) (i j : Nat) (hi : cs[i]? = some (pts a o)) (hj : (cs.eraseIdx i)[j]? = some (pts b o')) : a ≠ b := by
  obtain ⟨h1, h2, hd, _, _, pa, pb⟩ := SL_perm (perm_erase hi) h
  obtain ⟨k1, _, _, t1, _, qa, _⟩ := SL_perm (perm_erase hj) pb
  rintro rfl
  have e1 : h1 a = some o := pa
  have e2 : h2 a = some o' := t1 _ _ qa
  rcases hd a with e | e
  · rw [e] at e1; cases e1
  · rw [e] at e2; cases e2
theorem ob_ptr_ne {P : Program} {A : Ann} {H : HH} {t u ty e : TypeId} {a b : Nat} (hu : P.underlying t = some (.pointer e)) (hz : (szT P e).any (fun n => decide (0 < n)) = true) (h : a ≠ b) : Ob P A [yp a, yp b] H (.binOp .eql t (.tmp 0) (.tmp 1) u) ty (xb false) H := by
  refine ⟨0, ?_⟩
  show (((some (C.ptr a 0)).bind fun c => (some (C.ptr b 0)).bind fun d => (eqX P t c d).bind fun r => some (X.y (.one (.sc (.bool r))))).map fun v => (v, H)) = _
  simp only [Option.bind_some, eqX, hu, ptrS, hz, if_true]
  rw [decide_eq_false (by intro e; cases e; exact h rfl)]
  rfl
theorem ob_ptr_eq {P : Program} {A : Ann} {H : HH} {t u ty e : TypeId} {a : Nat} (hu : P.underlying t = some (.pointer e)) (hz : (szT P e).any (fun n => decide (0 < n)) = true) : Ob P A [yp a, yp a] H (.binOp .eql t (.tmp 0) (.tmp 1) u) ty (xb true) H := by
  refine ⟨0, ?_⟩
  show (((some (C.ptr a 0)).bind fun c => (some (C.ptr a 0)).bind fun d => (eqX P t c d).bind fun r => some (X.y (.one (.sc (.bool r))))).map fun v => (v, H)) = _
  simp only [Option.bind_some, eqX, hu, ptrS, hz, if_true, decide_true]
  rfl
theorem nd_drop {l : List EN.T} (h : (pids l).Nodup) (j : Nat) : (pids (l.drop j)).Nodup := by
  have : pids l = pids (l.take j) ++ pids (l.drop j) := by rw [← List.map_append, List.take_append_drop]
  rw [this, List.nodup_append] at h
  exact h.2.1
theorem ndv0 {l0 l1 l2 : List EN.T} (h : LoadOk l0 l1 l2) : (pids l0).Nodup := (List.nodup_append.1 h).1
theorem ndv1 {l0 l1 l2 : List EN.T} (h : LoadOk l0 l1 l2) : (pids l1).Nodup := (List.nodup_append.1 (List.nodup_append.1 h).2.1).1
theorem ndv2 {l0 l1 l2 : List EN.T} (h : LoadOk l0 l1 l2) : (pids l2).Nodup := (List.nodup_append.1 (List.nodup_append.1 h).2.1).2.1
theorem fn21 (b nil capd : Bool) (l : List EN.T) (hl : (l.length : Int) ≤ 4611686018427387904) : PureC pg an 21 [.one (sv EN b nil capd l)] [.one (vi (free l))] := by
 refine Runs.of (fn := Try.f21) Try.func21 rfl (by kernel_rfl) [(0, .y (.one (sv EN b nil capd l)))] (by kernel_rfl) ?_
 refine rS0 [(0, .y (.one (sv EN b nil capd l)))] (by kernel_rfl) ?_
 refine rS0 [(0, .y (.one (sv EN b nil capd l))), (3, xi 0)] (by kernel_rfl) ?_
 refine wS ?_
 refine rSq [(2, xi ((l.length : Int) - 1), [])] [(0, .y (.one (sv EN b nil capd l))), (3, xi 0), (4, xi ((l.length : Int) - 1))] []
   (cast (JZ (Jq (H := []) (t := 3) (u := 3) (a := (l.length : Int)) (b := 1) (c := ((l.length : Int) - 1)) (by omega))) (by kernel_rfl)) (by kernel_rfl) ?_
 refine wB ?_
 refine Wp.loop (T := Int × Int) (fun t => match t with | (n, i) => ((i + 1).toNat : Nat)) (fun t => match t with | (n, i) => ([(0, .y (.one (sv EN b nil capd l))), (3, xi n), (4, xi i)] : Env)) (fun t => match t with | (n, i) => ([] : HH))
   (fun t => match t with | (n, i) => (-1 ≤ i ∧ i < (l.length : Int) ∧ 0 ≤ n ∧ n + i + 1 = (l.length : Int) ∧ (free l : Int) = n + free (l.take (i + 1).toNat) : Prop)) (0, (l.length : Int) - 1) (by kernel_rfl) (by exact ⟨by omega, by omega, by omega, by omega, by rw [show ((l.length : Int) - 1 + 1).toNat = l.length by omega, List.take_length]; omega⟩) ?_
 rintro ⟨n, i⟩ ⟨h1, h2, h3, h4, h5⟩
 show Wp _ _ _ _ [(0, .y (.one (sv EN b nil capd l))), (3, xi n), (4, xi i)] [] _
 refine wS ?_
 by_cases c1 : (0 : Int) ≤ i
 ·
  obtain ⟨x2, hx2⟩ : ∃ x, l[(i : Int).toNat]? = some x := get_of (by omega)
  rcases Bool.eq_false_or_eq_true (x2.2.1) with c3 | c3
  ·
   refine rSq [(1, xb true, []), (5, .y (.one (.rd ([vi x2.1.1, vi x2.1.2.1, vb x2.2.1] ++ (l.drop ((i : Int).toNat + 1)).flatMap (enc EN)))), []), (7, xb true, [])] [(0, .y (.one (sv EN b nil capd l))), (3, xi n), (4, xi i), (17, xb false)] []
     (cast (Jai (Jw (H := []) (t := 3) (u := 3) (a := i) (b := 0) (by omega)) (Jai (Jf (H := []) (s := EN) (b := b) (nil := nil) (capd := capd) (t := 22) (el := 35) (i := i) Try.underlying22 (by kernel_rfl) (by kernel_rfl) (by omega) hx2) (JZ (Jl (vals := [.y (.one (.rd ([vb x2.2.1] ++ (l.drop ((i : Int).toNat + 1)).flatMap (enc EN))))]) (H := []) (op := .load 4 (.tmp 0)) (ty := 0) (r := xb x2.2.1) (v := xb true) (by kernel_rfl) (congrArg (fun z => xb z) (c3)))))) (by kernel_rfl)) (by kernel_rfl) ?_
   refine wFa ?_
   refine wX ?_
   refine Eq.mpr (if_pos rfl) ?_
   refine rS0 [(2, xi n)] (by kernel_rfl) ?_
   refine wE ?_
   exact ⟨Or.inr rfl, [.one (vi n)], by kernel_rfl, (congrArg (fun z => some [Y.one (vi z)]) (show n = (free l : Int) from by have := free_take (i := i) (by omega) hx2; rw [if_pos (by simp [c3])] at this; omega))⟩
  ·
   refine rSq [(1, xb true, []), (5, .y (.one (.rd ([vi x2.1.1, vi x2.1.2.1, vb x2.2.1] ++ (l.drop ((i : Int).toNat + 1)).flatMap (enc EN)))), []), (7, xb false, [])] [(0, .y (.one (sv EN b nil capd l))), (3, xi n), (4, xi i), (17, xb true)] []
     (cast (Jai (Jw (H := []) (t := 3) (u := 3) (a := i) (b := 0) (by omega)) (Jai (Jf (H := []) (s := EN) (b := b) (nil := nil) (capd := capd) (t := 22) (el := 35) (i := i) Try.underlying22 (by kernel_rfl) (by kernel_rfl) (by omega) hx2) (JZ (Jl (vals := [.y (.one (.rd ([vb x2.2.1] ++ (l.drop ((i : Int).toNat + 1)).flatMap (enc EN))))]) (H := []) (op := .load 4 (.tmp 0)) (ty := 0) (r := xb x2.2.1) (v := xb false) (by kernel_rfl) (congrArg (fun z => xb z) (c3)))))) (by kernel_rfl)) (by kernel_rfl) ?_
   refine wTk ?_
   refine wS (wB ?_)
   refine wR [(1, xi (n + 1), [])] [(0, .y (.one (sv EN b nil capd l))), (3, xi (n + 1)), (4, xi i)] []
     (cast (JZ (Jj (H := []) (t := 3) (u := 3) (a := n) (b := 1) (c := (n + 1)) (by omega))) (by kernel_rfl)) (by kernel_rfl) ?_
   refine wR [(1, xi (i - 1), [])] [(0, .y (.one (sv EN b nil capd l))), (3, xi (n + 1)), (4, xi (i - 1))] []
     (cast (JZ (Jq (H := []) (t := 3) (u := 3) (a := i) (b := 1) (c := (i - 1)) (by omega))) (by kernel_rfl)) (by kernel_rfl) ?_
   exact ⟨((n + 1), (i - 1)), by kernel_rfl, (by exact ⟨by omega, by omega, by omega, by omega, by have := free_take (i := i) (by omega) hx2; rw [if_neg (by simp [c3])] at this; rw [show i - 1 + 1 = i by omega]; omega⟩), (by show (_ : Nat) < _; simp only []; omega)⟩
 ·
  refine rSq [(1, xb false, [])] [(0, .y (.one (sv EN b nil capd l))), (3, xi n), (4, xi i), (17, xb false)] []
    (cast (JZ (Jy (H := []) (t := 3) (u := 3) (a := i) (b := 0) (by omega))) (by kernel_rfl)) (by kernel_rfl) ?_
  refine wFa ?_
  refine wX ?_
  refine Eq.mpr (if_pos rfl) ?_
  refine rS0 [(2, xi n)] (by kernel_rfl) ?_
  refine wE ?_
  exact ⟨Or.inr rfl, [.one (vi n)], by kernel_rfl, (congrArg (fun z => some [Y.one (vi z)]) (show n = (free l : Int) from by rw [show (i + 1).toNat = 0 by omega] at h5; simp [free, tail] at h5; simp [free]; omega))⟩
theorem fn22 (b nil capd : Bool) (l : List EN.T) (hl : (l.length : Int) ≤ 4611686018427387904) : PureC pg an 22 [.one (sv EN b nil capd l)] [.one (vi (free l))] := by
 refine Runs.of (fn := Try.f22) Try.func22 rfl (by kernel_rfl) [(0, .y (.one (sv EN b nil capd l)))] (by kernel_rfl) ?_
 refine rS0 [(0, .y (.one (sv EN b nil capd l)))] (by kernel_rfl) ?_
 refine rS0 [(0, .y (.one (sv EN b nil capd l))), (3, xi 0)] (by kernel_rfl) ?_
 refine wS ?_
 refine rS0 [(0, .y (.one (sv EN b nil capd l))), (3, xi 0), (4, xi 0)] (by kernel_rfl) ?_
 refine wB ?_
 refine Wp.loop (T := Int × Int) (fun t => match t with | (n, i) => (((l.length : Int) - i).toNat : Nat)) (fun t => match t with | (n, i) => ([(0, .y (.one (sv EN b nil capd l))), (3, xi n), (4, xi i)] : Env)) (fun t => match t with | (n, i) => ([] : HH))
   (fun t => match t with | (n, i) => (0 ≤ i ∧ i ≤ (l.length : Int) ∧ 0 ≤ n ∧ n ≤ i ∧ n = free (l.take i.toNat) : Prop)) (0, 0) (by kernel_rfl) (by exact ⟨by omega, by omega, by omega, by omega, by simp [free, tail]⟩) ?_
 rintro ⟨n, i⟩ ⟨h1, h2, h3, h4, h5⟩
 show Wp _ _ _ _ [(0, .y (.one (sv EN b nil capd l))), (3, xi n), (4, xi i)] [] _
 refine wS ?_
 by_cases c1 : (i : Int) < (l.length : Int)
 ·
  refine rSq [(3, xb true, [])] [(0, .y (.one (sv EN b nil capd l))), (3, xi n), (4, xi i), (8, xb true)] []
    (cast (JZ (Jh (H := []) (t := 3) (u := 3) (a := i) (b := (l.length : Int)) (by omega))) (by kernel_rfl)) (by kernel_rfl) ?_
  refine wTk ?_
  refine wS (wB ?_)
  refine rSq [(1, xi (n + 1), [])] [(0, .y (.one (sv EN b nil capd l))), (3, xi (n + 1)), (4, xi i)] []
    (cast (JZ (Jj (H := []) (t := 3) (u := 3) (a := n) (b := 1) (c := (n + 1)) (by omega))) (by kernel_rfl)) (by kernel_rfl) ?_
  obtain ⟨x2, hx2⟩ : ∃ x, l[(i : Int).toNat]? = some x := get_of (by omega)
  rcases Bool.eq_false_or_eq_true (x2.2.1) with c3 | c3
  ·
   refine rSq [(2, .y (.one (.rd ([vi x2.1.1, vi x2.1.2.1, vb x2.2.1] ++ (l.drop ((i : Int).toNat + 1)).flatMap (enc EN)))), []), (4, xb true, [])] [(0, .y (.one (sv EN b nil capd l))), (3, xi (n + 1)), (4, xi i), (17, xb true)] []
     (cast (Jai (Jf (H := []) (s := EN) (b := b) (nil := nil) (capd := capd) (t := 22) (el := 35) (i := i) Try.underlying22 (by kernel_rfl) (by kernel_rfl) (by omega) hx2) (JZ (Jl (vals := [.y (.one (.rd ([vb x2.2.1] ++ (l.drop ((i : Int).toNat + 1)).flatMap (enc EN))))]) (H := []) (op := .load 4 (.tmp 0)) (ty := 0) (r := xb x2.2.1) (v := xb true) (by kernel_rfl) (congrArg (fun z => xb z) (c3))))) (by kernel_rfl)) (by kernel_rfl) ?_
   refine wTa ?_
   refine wR [] [(0, .y (.one (sv EN b nil capd l))), (3, xi 0), (4, xi i)] []
     (cast trivial (by kernel_rfl)) (by kernel_rfl) ?_
   refine wR [(1, xi (i + 1), [])] [(0, .y (.one (sv EN b nil capd l))), (3, xi 0), (4, xi (i + 1))] []
     (cast (JZ (Jj (H := []) (t := 3) (u := 3) (a := i) (b := 1) (c := (i + 1)) (by omega))) (by kernel_rfl)) (by kernel_rfl) ?_
   exact ⟨(0, (i + 1)), by kernel_rfl, (by exact ⟨by omega, by omega, by omega, by omega, by have := free_take (i := i) (by omega) hx2; rw [this]; simp only [c3]; simp; try omega⟩), (by show (_ : Nat) < _; simp only []; omega)⟩
  ·
   refine rSq [(2, .y (.one (.rd ([vi x2.1.1, vi x2.1.2.1, vb x2.2.1] ++ (l.drop ((i : Int).toNat + 1)).flatMap (enc EN)))), []), (4, xb false, [])] [(0, .y (.one (sv EN b nil capd l))), (3, xi (n + 1)), (4, xi i), (17, xb false)] []
     (cast (Jai (Jf (H := []) (s := EN) (b := b) (nil := nil) (capd := capd) (t := 22) (el := 35) (i := i) Try.underlying22 (by kernel_rfl) (by kernel_rfl) (by omega) hx2) (JZ (Jl (vals := [.y (.one (.rd ([vb x2.2.1] ++ (l.drop ((i : Int).toNat + 1)).flatMap (enc EN))))]) (H := []) (op := .load 4 (.tmp 0)) (ty := 0) (r := xb x2.2.1) (v := xb false) (by kernel_rfl) (congrArg (fun z => xb z) (c3))))) (by kernel_rfl)) (by kernel_rfl) ?_
   refine wFk ?_
   refine wR [(1, xi (i + 1), [])] [(0, .y (.one (sv EN b nil capd l))), (3, xi (n + 1)), (4, xi (i + 1))] []
     (cast (JZ (Jj (H := []) (t := 3) (u := 3) (a := i) (b := 1) (c := (i + 1)) (by omega))) (by kernel_rfl)) (by kernel_rfl) ?_
   exact ⟨((n + 1), (i + 1)), by kernel_rfl, (by exact ⟨by omega, by omega, by omega, by omega, by have := free_take (i := i) (by omega) hx2; rw [this]; simp only [c3]; simp; try omega⟩), (by show (_ : Nat) < _; simp only []; omega)⟩
 ·
  refine rSq [(3, xb false, [])] [(0, .y (.one (sv EN b nil capd l))), (3, xi n), (4, xi i), (8, xb false)] []
    (cast (JZ (Je (H := []) (t := 3) (u := 3) (a := i) (b := (l.length : Int)) (by omega))) (by kernel_rfl)) (by kernel_rfl) ?_
  refine wFa ?_
  refine wX ?_
  refine Eq.mpr (if_pos rfl) ?_
  refine rS0 [(2, xi n)] (by kernel_rfl) ?_
  refine wE ?_
  exact ⟨Or.inr rfl, [.one (vi n)], by kernel_rfl, (congrArg (fun z => some [Y.one (vi z)]) (show n = (free l : Int) from by rw [h5, show i.toNat = l.length by omega, List.take_length]))⟩
theorem fn7 (b nil capd : Bool) (l : List EN.T) (hl : (l.length : Int) ≤ 4611686018427387904) : PureC pg an 7 [.one (sv EN b nil capd l)] [.one (vi (half l))] := by
 refine Runs.of (fn := Try.f7) Try.func7 rfl (by kernel_rfl) [(0, .y (.one (sv EN b nil capd l)))] (by kernel_rfl) ?_
 refine rS0 [(0, .y (.one (sv EN b nil capd l)))] (by kernel_rfl) ?_
 have hhz1 := half_is (l)
 refine rSq [(1, xi (free l : Int), [])] [(3, xi (free l : Int))] []
   (cast (JZ (Jo (H := []) (g := 21) (x := .one (sv EN b nil capd l)) (res := [.one (vi (free l : Int))]) (fn21 _ _ _ l (by omega)) (by kernel_rfl) (by kernel_rfl))) (by kernel_rfl)) (by kernel_rfl) ?_
 refine rSq [(1, xi ((free l : Int) / 2), []), (3, xi ((free l : Int) % 2), []), (4, xi (((free l : Int) / 2) + ((free l : Int) % 2)), [])] [(2, xi (((free l : Int) / 2) + ((free l : Int) % 2)))] []
   (cast (Jai (Jl (vals := [xi (free l : Int), xi 2]) (H := []) (op := .binOp .quo 3 (.tmp 0) (.tmp 1) 3) (ty := 0) (r := xi (IntKind.wrap .i64 (Int.tdiv (free l : Int) 2))) (v := xi ((free l : Int) / 2)) (by kernel_rfl) (congrArg (fun z => xi z) ((congrArg (IntKind.wrap .i64) (Int.tdiv_eq_ediv_of_nonneg (by omega))).trans (wrap64 (by omega))))) (Jai (Jl (vals := [xi (free l : Int), xi 2]) (H := []) (op := .binOp .rem 3 (.tmp 0) (.tmp 1) 3) (ty := 0) (r := xi (Int.tmod (free l : Int) 2)) (v := xi ((free l : Int) % 2)) (by kernel_rfl) (congrArg (fun z => xi z) (Int.tmod_eq_emod_of_nonneg (by omega)))) (JZ (Jj (H := []) (t := 3) (u := 3) (a := ((free l : Int) / 2)) (b := ((free l : Int) % 2)) (c := (((free l : Int) / 2) + ((free l : Int) % 2))) (by omega))))) (by kernel_rfl)) (by kernel_rfl) ?_
 refine wE ?_
 exact ⟨Or.inr rfl, [.one (vi (((free l : Int) / 2) + ((free l : Int) % 2)))], by kernel_rfl, (congrArg (fun z => some [Y.one (vi z)]) (show (((free l : Int) / 2) + ((free l : Int) % 2)) = half l from by unfold half; omega))⟩
theorem fn8 (b nil capd : Bool) (l : List EN.T) (hl : (l.length : Int) ≤ 4611686018427387904) : PureC pg an 8 [.one (sv EN b nil capd l)] [.one (vi (half l))] := by
 refine Runs.of (fn := Try.f8) Try.func8 rfl (by kernel_rfl) [(0, .y (.one (sv EN b nil capd l)))] (by kernel_rfl) ?_
 refine rS0 [(0, .y (.one (sv EN b nil capd l)))] (by kernel_rfl) ?_
 have hhz1 := half_is (l)
 refine rSq [(1, xi (free l : Int), []), (2, xi ((free l : Int) / 2), []), (4, xi (free l : Int), []), (5, xi ((free l : Int) % 2), []), (6, xi (((free l : Int) / 2) + ((free l : Int) % 2)), [])] [(2, xi (((free l : Int) / 2) + ((free l : Int) % 2)))] []
   (cast (Jai (Jo (H := []) (g := 22) (x := .one (sv EN b nil capd l)) (res := [.one (vi (free l : Int))]) (fn22 _ _ _ l (by omega)) (by kernel_rfl) (by kernel_rfl)) (Jai (Jl (vals := [xi (free l : Int), xi 2]) (H := []) (op := .binOp .quo 3 (.tmp 0) (.tmp 1) 3) (ty := 0) (r := xi (IntKind.wrap .i64 (Int.tdiv (free l : Int) 2))) (v := xi ((free l : Int) / 2)) (by kernel_rfl) (congrArg (fun z => xi z) ((congrArg (IntKind.wrap .i64) (Int.tdiv_eq_ediv_of_nonneg (by omega))).trans (wrap64 (by omega))))) (Jai (Jo (H := []) (g := 22) (x := .one (sv EN b nil capd l)) (res := [.one (vi (free l : Int))]) (fn22 _ _ _ l (by omega)) (by kernel_rfl) (by kernel_rfl)) (Jai (Jl (vals := [xi (free l : Int), xi 2]) (H := []) (op := .binOp .rem 3 (.tmp 0) (.tmp 1) 3) (ty := 0) (r := xi (Int.tmod (free l : Int) 2)) (v := xi ((free l : Int) % 2)) (by kernel_rfl) (congrArg (fun z => xi z) (Int.tmod_eq_emod_of_nonneg (by omega)))) (JZ (Jj (H := []) (t := 3) (u := 3) (a := ((free l : Int) / 2)) (b := ((free l : Int) % 2)) (c := (((free l : Int) / 2) + ((free l : Int) % 2))) (by omega))))))) (by kernel_rfl)) (by kernel_rfl) ?_
 refine wE ?_
 exact ⟨Or.inr rfl, [.one (vi (((free l : Int) / 2) + ((free l : Int) % 2)))], by kernel_rfl, (congrArg (fun z => some [Y.one (vi z)]) (show (((free l : Int) / 2) + ((free l : Int) % 2)) = half l from by unfold half; omega))⟩
theorem fn11 (b0 nil0 capd0 b1 nil1 capd1 b2 nil2 capd2 : Bool) (l0 l1 l2 : List EN.T) (r0 r1 r2 : Int) (hl0 : (l0.length : Int) ≤ 4611686018427387904) (hl1 : (l1.length : Int) ≤ 4611686018427387904) (hl2 : (l2.length : Int) ≤ 4611686018427387904)  : PureC pg an 11 [.agg [sv EN b0 nil0 capd0 l0, sv EN b1 nil1 capd1 l1, sv EN b2 nil2 capd2 l2], .agg [vi r0, vi r1, vi r2]] [.one (vi (plan (half l0) (half l1) (half l2) r0 r1 r2).1), .one (vi (plan (half l0) (half l1) (half l2) r0 r1 r2).2.1), .one (vi (plan (half l0) (half l1) (half l2) r0 r1 r2).2.2)] := by
 suffices h : ∃ rs H', Runs pg an 11 [.agg [sv EN b0 nil0 capd0 l0, sv EN b1 nil1 capd1 l1, sv EN b2 nil2 capd2 l2], .agg [vi r0, vi r1, vi r2]] [] rs H' ∧ rs.mapM (backY H') = some [.one (vi (plan (half l0) (half l1) (half l2) r0 r1 r2).1), .one (vi (plan (half l0) (half l1) (half l2) r0 r1 r2).2.1), .one (vi (plan (half l0) (half l1) (half l2) r0 r1 r2).2.2)] by
  obtain ⟨rs, H', h1, h2⟩ := h
  exact ⟨rs, H', h1, h2⟩
 refine Runs.of (fn := Try.f11) Try.func11 rfl (by kernel_rfl) [(0, .y (.agg [sv EN b0 nil0 capd0 l0, sv EN b1 nil1 capd1 l1, sv EN b2 nil2 capd2 l2])), (1, .y (.agg [vi r0, vi r1, vi r2]))] (by kernel_rfl) ?_
 obtain ⟨n1, hn1⟩ : ∃ n, n = List.length ([] : HH) := ⟨_, rfl⟩
 obtain ⟨n2, hn2⟩ : ∃ n, n = List.length (([] ++ [.obj [sv EN b0 nil0 capd0 l0, sv EN b1 nil1 capd1 l1, sv EN b2 nil2 capd2 l2]]) : HH) := ⟨_, rfl⟩
 refine rSq [(0, yp n1, ([] ++ [.obj [sv EN b0 nil0 capd0 l0, sv EN b1 nil1 capd1 l1, sv EN b2 nil2 capd2 l2]])), (1, yp n2, (([] ++ [.obj [sv EN b0 nil0 capd0 l0, sv EN b1 nil1 capd1 l1, sv EN b2 nil2 capd2 l2]]) ++ [.obj [vi r0, vi r1, vi r2]]))] [(2, yp n1), (3, yp n2)] (([] ++ [.obj [sv EN b0 nil0 capd0 l0, sv EN b1 nil1 capd1 l1, sv EN b2 nil2 capd2 l2]]) ++ [.obj [vi r0, vi r1, vi r2]])
   (cast (Jai (Ji (H := []) (t := 23) (ty := 0) (n := n1) (v := .agg [sv EN b0 nil0 capd0 l0, sv EN b1 nil1 capd1 l1, sv EN b2 nil2 capd2 l2]) (cs := [sv EN b0 nil0 capd0 l0, sv EN b1 nil1 capd1 l1, sv EN b2 nil2 capd2 l2]) hn1 (by kernel_rfl) (by kernel_rfl) (by kernel_rfl)) (JZ (Ji (H := ([] ++ [.obj [sv EN b0 nil0 capd0 l0, sv EN b1 nil1 capd1 l1, sv EN b2 nil2 capd2 l2]])) (t := 24) (ty := 0) (n := n2) (v := .agg [vi r0, vi r1, vi r2]) (cs := [vi r0, vi r1, vi r2]) hn2 (by kernel_rfl) (by kernel_rfl) (by kernel_rfl)))) (by kernel_rfl)) (by kernel_rfl) ?_
 refine wG (On.new' hn2 (.obj [vi r0, vi r1, vi r2]) (On.new' hn1 (.obj [sv EN b0 nil0 capd0 l0, sv EN b1 nil1 capd1 l1, sv EN b2 nil2 capd2 l2]) (On.nil []))) ?_
 intro H3 hs4
 refine wS ?_
 refine rSq [(0, .y (.agg [vi r0, vi r1, vi r2]), H3)] [(2, yp n1), (3, yp n2), (11, .y (.agg [vi r0, vi r1, vi r2])), (12, xi 0)] H3
   (cast (JZ (Ja (t := 24) (off := 0) (v := .agg [vi r0, vi r1, vi r2]) (On.at hs4 1 rfl) (by kernel_rfl))) (by kernel_rfl)) (by kernel_rfl) ?_
 refine wB ?_
 refine Wp.loopU [(2, yp n1), (3, yp n2), (11, .y (.agg [vi r0, vi r1, vi r2])), (12, xi 0)] (some ([2, 3, 11, 12], false)) (List.length H3) (by kernel_rfl) ?_
 refine WpL.step ?_
 refine rS0 [(2, yp n1), (3, yp n2), (11, .y (.agg [vi r0, vi r1, vi r2])), (12, xi 0), (13, xb true)] (by kernel_rfl) ?_
 refine wS (wTk ?_)
 refine wS (wB ?_)
 refine rS0 [(2, yp n1), (3, yp n2), (8, xi r0), (11, .y (.agg [vi r0, vi r1, vi r2])), (12, xi 0)] (by kernel_rfl) ?_
 by_cases c5 : (r0 : Int) < 0
 ·
  refine rSq [(1, xb true, H3)] [(2, yp n1), (3, yp n2), (11, .y (.agg [vi r0, vi r1, vi r2])), (12, xi 0), (16, xb true)] H3
    (cast (JZ (Jh (H := H3) (t := 3) (u := 3) (a := r0) (b := 0) (by omega))) (by kernel_rfl)) (by kernel_rfl) ?_
  refine wTa ?_
  refine rS0 [(4, xi 0), (5, xi 0), (6, xi 1)] (by kernel_rfl) ?_
  refine wE ?_
  refine ⟨Or.inr rfl, [.one (vi 0), .one (vi 0), .one (vi 1)], (by kernel_rfl), ?_⟩
  have hp : plan (half l0) (half l1) (half l2) r0 r1 r2 = (0, 0, 1) := by { unfold plan pick; (repeat' split) <;> first | rfl | (exfalso; omega) }
  rw [hp]; show List.mapM _ _ = _; kernel_rfl
 ·
  refine rSq [(1, xb false, H3)] [(2, yp n1), (3, yp n2), (11, .y (.agg [vi r0, vi r1, vi r2])), (12, xi 0), (16, xb false)] H3
    (cast (JZ (Je (H := H3) (t := 3) (u := 3) (a := r0) (b := 0) (by omega))) (by kernel_rfl)) (by kernel_rfl) ?_
  refine wFk ?_
  refine wR [] [(2, yp n1), (3, yp n2), (11, .y (.agg [vi r0, vi r1, vi r2])), (12, xi 1)] H3
    (cast trivial (by kernel_rfl)) (by kernel_rfl) ?_
  refine ⟨_, _, rfl, ?_⟩
  refine WpL.step ?_
  refine rS0 [(2, yp n1), (3, yp n2), (11, .y (.agg [vi r0, vi r1, vi r2])), (12, xi 1), (13, xb true)] (by kernel_rfl) ?_
  refine wS (wTk ?_)
  refine wS (wB ?_)
  refine rS0 [(2, yp n1), (3, yp n2), (8, xi r1), (11, .y (.agg [vi r0, vi r1, vi r2])), (12, xi 1)] (by kernel_rfl) ?_
  by_cases c6 : (r1 : Int) < 0
  ·
   refine rSq [(1, xb true, H3)] [(2, yp n1), (3, yp n2), (11, .y (.agg [vi r0, vi r1, vi r2])), (12, xi 1), (16, xb true)] H3
     (cast (JZ (Jh (H := H3) (t := 3) (u := 3) (a := r1) (b := 0) (by omega))) (by kernel_rfl)) (by kernel_rfl) ?_
   refine wTa ?_
   refine rS0 [(4, xi 0), (5, xi 0), (6, xi 1)] (by kernel_rfl) ?_
   refine wE ?_
   refine ⟨Or.inr rfl, [.one (vi 0), .one (vi 0), .one (vi 1)], (by kernel_rfl), ?_⟩
   have hp : plan (half l0) (half l1) (half l2) r0 r1 r2 = (0, 0, 1) := by { unfold plan pick; (repeat' split) <;> first | rfl | (exfalso; omega) }
   rw [hp]; show List.mapM _ _ = _; kernel_rfl
  ·
   refine rSq [(1, xb false, H3)] [(2, yp n1), (3, yp n2), (11, .y (.agg [vi r0, vi r1, vi r2])), (12, xi 1), (16, xb false)] H3
     (cast (JZ (Je (H := H3) (t := 3) (u := 3) (a := r1) (b := 0) (by omega))) (by kernel_rfl)) (by kernel_rfl) ?_
   refine wFk ?_
   refine wR [] [(2, yp n1), (3, yp n2), (11, .y (.agg [vi r0, vi r1, vi r2])), (12, xi 2)] H3
     (cast trivial (by kernel_rfl)) (by kernel_rfl) ?_
   refine ⟨_, _, rfl, ?_⟩
   refine WpL.step ?_
   refine rS0 [(2, yp n1), (3, yp n2), (11, .y (.agg [vi r0, vi r1, vi r2])), (12, xi 2), (13, xb true)] (by kernel_rfl) ?_
   refine wS (wTk ?_)
   refine wS (wB ?_)
   refine rS0 [(2, yp n1), (3, yp n2), (8, xi r2), (11, .y (.agg [vi r0, vi r1, vi r2])), (12, xi 2)] (by kernel_rfl) ?_
   by_cases c7 : (r2 : Int) < 0
   ·
    refine rSq [(1, xb true, H3)] [(2, yp n1), (3, yp n2), (11, .y (.agg [vi r0, vi r1, vi r2])), (12, xi 2), (16, xb true)] H3
      (cast (JZ (Jh (H := H3) (t := 3) (u := 3) (a := r2) (b := 0) (by omega))) (by kernel_rfl)) (by kernel_rfl) ?_
    refine wTa ?_
    refine rS0 [(4, xi 0), (5, xi 0), (6, xi 1)] (by kernel_rfl) ?_
    refine wE ?_
    refine ⟨Or.inr rfl, [.one (vi 0), .one (vi 0), .one (vi 1)], (by kernel_rfl), ?_⟩
    have hp : plan (half l0) (half l1) (half l2) r0 r1 r2 = (0, 0, 1) := by { unfold plan pick; (repeat' split) <;> first | rfl | (exfalso; omega) }
    rw [hp]; show List.mapM _ _ = _; kernel_rfl
   ·
    refine rSq [(1, xb false, H3)] [(2, yp n1), (3, yp n2), (11, .y (.agg [vi r0, vi r1, vi r2])), (12, xi 2), (16, xb false)] H3
      (cast (JZ (Je (H := H3) (t := 3) (u := 3) (a := r2) (b := 0) (by omega))) (by kernel_rfl)) (by kernel_rfl) ?_
    refine wFk ?_
    refine wR [] [(2, yp n1), (3, yp n2), (11, .y (.agg [vi r0, vi r1, vi r2])), (12, xi 3)] H3
      (cast trivial (by kernel_rfl)) (by kernel_rfl) ?_
    refine ⟨_, _, rfl, ?_⟩
    refine WpL.step ?_
    refine rS0 [(2, yp n1), (3, yp n2), (11, .y (.agg [vi r0, vi r1, vi r2])), (12, xi 3), (13, xb false)] (by kernel_rfl) ?_
    refine wS ?_
    refine wFa ?_
    refine wX ?_
    refine Eq.mpr (if_pos rfl) ?_
    refine wS ?_
    refine rS0 [(2, yp n1), (3, yp n2), (18, xi 0)] (by kernel_rfl) ?_
    refine wB ?_
    refine Wp.loopU [(2, yp n1), (3, yp n2), (18, xi 0)] (some ([2, 3, 18], false)) (List.length H3) (by kernel_rfl) ?_
    refine WpL.step ?_
    refine rS0 [(2, yp n1), (3, yp n2), (18, xi 0), (19, xb true)] (by kernel_rfl) ?_
    refine wS (wTk ?_)
    refine Wp.meet 1 (T := HH × Int) (fun t => match t with | (H8, hq0) => ([(2, yp n1), (3, yp n2), (9, xi 0), (10, xi hq0), (18, xi 0), (30, xb false)] : Env)) (fun t => match t with | (H8, hq0) => (H8 : HH)) (fun t => match t with | (H8, hq0) => (On [pts n1 (.obj [sv EN b0 nil0 capd0 l0, sv EN b1 nil1 capd1 l1, sv EN b2 nil2 capd2 l2]), pts n2 (.obj [vi r0, vi r1, vi r2])] H8 ∧ (half l0 ≤ 0 ∨ r0 ≤ 0) : Prop)) ?_ ?_
    ·
     rintro ⟨H8, hq0⟩ ⟨hs9, hm09⟩
     show Wp _ _ _ _ [(2, yp n1), (3, yp n2), (9, xi 0), (10, xi hq0), (18, xi 0), (30, xb false)] H8 _
     refine wR [] [(2, yp n1), (3, yp n2), (18, xi 1)] H8
       (cast trivial (by kernel_rfl)) (by kernel_rfl) ?_
     refine ⟨_, _, rfl, ?_⟩
     refine WpL.step ?_
     refine rS0 [(2, yp n1), (3, yp n2), (18, xi 1), (19, xb true)] (by kernel_rfl) ?_
     refine wS (wTk ?_)
     refine Wp.meet 1 (T := HH × Int) (fun t => match t with | (H11, hq1) => ([(2, yp n1), (3, yp n2), (9, xi 1), (10, xi hq1), (18, xi 1), (30, xb false)] : Env)) (fun t => match t with | (H11, hq1) => (H11 : HH)) (fun t => match t with | (H11, hq1) => (On [pts n1 (.obj [sv EN b0 nil0 capd0 l0, sv EN b1 nil1 capd1 l1, sv EN b2 nil2 capd2 l2]), pts n2 (.obj [vi r0, vi r1, vi r2])] H11 ∧ (half l1 ≤ 0 ∨ r1 ≤ 0) : Prop)) ?_ ?_
     ·
      rintro ⟨H11, hq1⟩ ⟨hs12, hm19⟩
      show Wp _ _ _ _ [(2, yp n1), (3, yp n2), (9, xi 1), (10, xi hq1), (18, xi 1), (30, xb false)] H11 _
      refine wR [] [(2, yp n1), (3, yp n2), (18, xi 2)] H11
        (cast trivial (by kernel_rfl)) (by kernel_rfl) ?_
      refine ⟨_, _, rfl, ?_⟩
      refine WpL.step ?_
      refine rS0 [(2, yp n1), (3, yp n2), (18, xi 2), (19, xb true)] (by kernel_rfl) ?_
      refine wS (wTk ?_)
      refine Wp.meet 1 (T := HH × Int) (fun t => match t with | (H14, hq2) => ([(2, yp n1), (3, yp n2), (9, xi 2), (10, xi hq2), (18, xi 2), (30, xb false)] : Env)) (fun t => match t with | (H14, hq2) => (H14 : HH)) (fun t => match t with | (H14, hq2) => (On [pts n1 (.obj [sv EN b0 nil0 capd0 l0, sv EN b1 nil1 capd1 l1, sv EN b2 nil2 capd2 l2]), pts n2 (.obj [vi r0, vi r1, vi r2])] H14 ∧ (half l2 ≤ 0 ∨ r2 ≤ 0) : Prop)) ?_ ?_
      ·
       rintro ⟨H14, hq2⟩ ⟨hs15, hm29⟩
       show Wp _ _ _ _ [(2, yp n1), (3, yp n2), (9, xi 2), (10, xi hq2), (18, xi 2), (30, xb false)] H14 _
       refine wR [] [(2, yp n1), (3, yp n2), (18, xi 3)] H14
         (cast trivial (by kernel_rfl)) (by kernel_rfl) ?_
       refine ⟨_, _, rfl, ?_⟩
       refine WpL.step ?_
       refine rS0 [(2, yp n1), (3, yp n2), (18, xi 3), (19, xb false)] (by kernel_rfl) ?_
       refine wS ?_
       refine wFa ?_
       refine wX ?_
       refine Eq.mpr (if_pos rfl) ?_
       refine rS0 [(4, xi 0), (5, xi 0), (6, xi 3)] (by kernel_rfl) ?_
       refine wE ?_
       refine ⟨Or.inr rfl, [.one (vi 0), .one (vi 0), .one (vi 3)], (by kernel_rfl), ?_⟩
       have hp : plan (half l0) (half l1) (half l2) r0 r1 r2 = (0, 0, 3) := by { unfold plan pick; (repeat' split) <;> first | rfl | (exfalso; omega) }
       rw [hp]; show List.mapM _ _ = _; kernel_rfl
      ·
       intro hm16
       refine wS (wB ?_)
       refine rS0 [(2, yp n1), (3, yp n2), (9, xi 2), (18, xi 2)] (by kernel_rfl) ?_
       have hhz17 := half_is (l2)
       by_cases c19 : (r2 : Int) < (half l2)
       ·
        refine rSq [(2, .y (.one (sv EN b2 nil2 capd2 l2)), H11), (3, xi (half l2), H11), (6, xi r2, H11), (7, xi r2, H11)] [(2, yp n1), (3, yp n2), (9, xi 2), (10, xi r2), (18, xi 2)] H11
          (cast (Jai (Ja (t := 22) (off := 2) (v := .one (sv EN b2 nil2 capd2 l2)) (On.at hs12 0 rfl) (by kernel_rfl)) (Jai (Jo (H := H11) (g := 7) (x := .one (sv EN b2 nil2 capd2 l2)) (res := [.one (vi (half l2))]) (fn7 _ _ _ l2 (by omega)) (by kernel_rfl) (by kernel_rfl)) (Jai (Ja (t := 3) (off := 2) (v := .one (vi r2)) (On.at hs12 1 rfl) (by kernel_rfl)) (JZ (Jl (vals := [xi (half l2), xi r2]) (H := H11) (op := .call { callee := .builtin .min, args := #[.tmp 0, .tmp 1], argTypes := #[3, 3] }) (ty := 0) (r := xi (if (r2 : Int) < (half l2) then r2 else (half l2))) (v := xi r2) (by kernel_rfl) (congrArg (fun z => xi z) (if_pos (by omega)))))))) (by kernel_rfl)) (by kernel_rfl) ?_
        by_cases c21 : (0 : Int) < r2
        ·
         refine rSq [(1, xb true, H11)] [(2, yp n1), (3, yp n2), (9, xi 2), (10, xi r2), (18, xi 2), (30, xb true)] H11
           (cast (JZ (Jd (H := H11) (t := 3) (u := 3) (a := r2) (b := 0) (by omega))) (by kernel_rfl)) (by kernel_rfl) ?_
         refine wTa ?_
         refine rS0 [(4, xi 2), (5, xi r2), (6, xi 0)] (by kernel_rfl) ?_
         refine wE ?_
         refine ⟨Or.inr rfl, [.one (vi 2), .one (vi r2), .one (vi 0)], (by kernel_rfl), ?_⟩
         have hp : plan (half l0) (half l1) (half l2) r0 r1 r2 = (2, r2, 0) := by { unfold plan pick; (repeat' split) <;> first | rfl | (exfalso; omega) }
         rw [hp]; show List.mapM _ _ = _; kernel_rfl
        ·
         refine rSq [(1, xb false, H11)] [(2, yp n1), (3, yp n2), (9, xi 2), (10, xi r2), (18, xi 2), (30, xb false)] H11
           (cast (JZ (Jk (H := H11) (t := 3) (u := 3) (a := r2) (b := 0) (by omega))) (by kernel_rfl)) (by kernel_rfl) ?_
         refine wFk ?_
         exact hm16 (H11, r2) ⟨(On.pick [0, 1] [] (by kernel_rfl) hs12), by omega⟩
       ·
        refine rSq [(2, .y (.one (sv EN b2 nil2 capd2 l2)), H11), (3, xi (half l2), H11), (6, xi r2, H11), (7, xi (half l2), H11)] [(2, yp n1), (3, yp n2), (9, xi 2), (10, xi (half l2)), (18, xi 2)] H11
          (cast (Jai (Ja (t := 22) (off := 2) (v := .one (sv EN b2 nil2 capd2 l2)) (On.at hs12 0 rfl) (by kernel_rfl)) (Jai (Jo (H := H11) (g := 7) (x := .one (sv EN b2 nil2 capd2 l2)) (res := [.one (vi (half l2))]) (fn7 _ _ _ l2 (by omega)) (by kernel_rfl) (by kernel_rfl)) (Jai (Ja (t := 3) (off := 2) (v := .one (vi r2)) (On.at hs12 1 rfl) (by kernel_rfl)) (JZ (Jl (vals := [xi (half l2), xi r2]) (H := H11) (op := .call { callee := .builtin .min, args := #[.tmp 0, .tmp 1], argTypes := #[3, 3] }) (ty := 0) (r := xi (if (r2 : Int) < (half l2) then r2 else (half l2))) (v := xi (half l2)) (by kernel_rfl) (congrArg (fun z => xi z) (if_neg (by omega)))))))) (by kernel_rfl)) (by kernel_rfl) ?_
        by_cases c23 : (0 : Int) < (half l2)
        ·
         refine rSq [(1, xb true, H11)] [(2, yp n1), (3, yp n2), (9, xi 2), (10, xi (half l2)), (18, xi 2), (30, xb true)] H11
           (cast (JZ (Jd (H := H11) (t := 3) (u := 3) (a := (half l2)) (b := 0) (by omega))) (by kernel_rfl)) (by kernel_rfl) ?_
         refine wTa ?_
         refine rS0 [(4, xi 2), (5, xi (half l2)), (6, xi 0)] (by kernel_rfl) ?_
         refine wE ?_
         refine ⟨Or.inr rfl, [.one (vi 2), .one (vi (half l2)), .one (vi 0)], (by kernel_rfl), ?_⟩
         have hp : plan (half l0) (half l1) (half l2) r0 r1 r2 = (2, (half l2), 0) := by { unfold plan pick; (repeat' split) <;> first | rfl | (exfalso; omega) }
         rw [hp]; show List.mapM _ _ = _; kernel_rfl
        ·
         refine rSq [(1, xb false, H11)] [(2, yp n1), (3, yp n2), (9, xi 2), (10, xi (half l2)), (18, xi 2), (30, xb false)] H11
           (cast (JZ (Jk (H := H11) (t := 3) (u := 3) (a := (half l2)) (b := 0) (by omega))) (by kernel_rfl)) (by kernel_rfl) ?_
         refine wFk ?_
         exact hm16 (H11, (half l2)) ⟨(On.pick [0, 1] [] (by kernel_rfl) hs12), by omega⟩
     ·
      intro hm13
      refine wS (wB ?_)
      refine rS0 [(2, yp n1), (3, yp n2), (9, xi 1), (18, xi 1)] (by kernel_rfl) ?_
      have hhz24 := half_is (l1)
      by_cases c26 : (r1 : Int) < (half l1)
      ·
       refine rSq [(2, .y (.one (sv EN b1 nil1 capd1 l1)), H8), (3, xi (half l1), H8), (6, xi r1, H8), (7, xi r1, H8)] [(2, yp n1), (3, yp n2), (9, xi 1), (10, xi r1), (18, xi 1)] H8
         (cast (Jai (Ja (t := 22) (off := 1) (v := .one (sv EN b1 nil1 capd1 l1)) (On.at hs9 0 rfl) (by kernel_rfl)) (Jai (Jo (H := H8) (g := 7) (x := .one (sv EN b1 nil1 capd1 l1)) (res := [.one (vi (half l1))]) (fn7 _ _ _ l1 (by omega)) (by kernel_rfl) (by kernel_rfl)) (Jai (Ja (t := 3) (off := 1) (v := .one (vi r1)) (On.at hs9 1 rfl) (by kernel_rfl)) (JZ (Jl (vals := [xi (half l1), xi r1]) (H := H8) (op := .call { callee := .builtin .min, args := #[.tmp 0, .tmp 1], argTypes := #[3, 3] }) (ty := 0) (r := xi (if (r1 : Int) < (half l1) then r1 else (half l1))) (v := xi r1) (by kernel_rfl) (congrArg (fun z => xi z) (if_pos (by omega)))))))) (by kernel_rfl)) (by kernel_rfl) ?_
       by_cases c28 : (0 : Int) < r1
       ·
        refine rSq [(1, xb true, H8)] [(2, yp n1), (3, yp n2), (9, xi 1), (10, xi r1), (18, xi 1), (30, xb true)] H8
          (cast (JZ (Jd (H := H8) (t := 3) (u := 3) (a := r1) (b := 0) (by omega))) (by kernel_rfl)) (by kernel_rfl) ?_
        refine wTa ?_
        refine rS0 [(4, xi 1), (5, xi r1), (6, xi 0)] (by kernel_rfl) ?_
        refine wE ?_
        refine ⟨Or.inr rfl, [.one (vi 1), .one (vi r1), .one (vi 0)], (by kernel_rfl), ?_⟩
        have hp : plan (half l0) (half l1) (half l2) r0 r1 r2 = (1, r1, 0) := by { unfold plan pick; (repeat' split) <;> first | rfl | (exfalso; omega) }
        rw [hp]; show List.mapM _ _ = _; kernel_rfl
       ·
        refine rSq [(1, xb false, H8)] [(2, yp n1), (3, yp n2), (9, xi 1), (10, xi r1), (18, xi 1), (30, xb false)] H8
          (cast (JZ (Jk (H := H8) (t := 3) (u := 3) (a := r1) (b := 0) (by omega))) (by kernel_rfl)) (by kernel_rfl) ?_
        refine wFk ?_
        exact hm13 (H8, r1) ⟨(On.pick [0, 1] [] (by kernel_rfl) hs9), by omega⟩
      ·
       refine rSq [(2, .y (.one (sv EN b1 nil1 capd1 l1)), H8), (3, xi (half l1), H8), (6, xi r1, H8), (7, xi (half l1), H8)] [(2, yp n1), (3, yp n2), (9, xi 1), (10, xi (half l1)), (18, xi 1)] H8
         (cast (Jai (Ja (t := 22) (off := 1) (v := .one (sv EN b1 nil1 capd1 l1)) (On.at hs9 0 rfl) (by kernel_rfl)) (Jai (Jo (H := H8) (g := 7) (x := .one (sv EN b1 nil1 capd1 l1)) (res := [.one (vi (half l1))]) (fn7 _ _ _ l1 (by omega)) (by kernel_rfl) (by kernel_rfl)) (Jai (Ja (t := 3) (off := 1) (v := .one (vi r1)) (On.at hs9 1 rfl) (by kernel_rfl)) (JZ (Jl (vals := [xi (half l1), xi r1]) (H := H8) (op := .call { callee := .builtin .min, args := #[.tmp 0, .tmp 1], argTypes := #[3, 3] }) (ty := 0) (r := xi (if (r1 : Int) < (half l1) then r1 else (half l1))) (v := xi (half l1)) (by kernel_rfl) (congrArg (fun z => xi z) (if_neg (by omega)))))))) (by kernel_rfl)) (by kernel_rfl) ?_
       by_cases c30 : (0 : Int) < (half l1)
       ·
        refine rSq [(1, xb true, H8)] [(2, yp n1), (3, yp n2), (9, xi 1), (10, xi (half l1)), (18, xi 1), (30, xb true)] H8
          (cast (JZ (Jd (H := H8) (t := 3) (u := 3) (a := (half l1)) (b := 0) (by omega))) (by kernel_rfl)) (by kernel_rfl) ?_
        refine wTa ?_
        refine rS0 [(4, xi 1), (5, xi (half l1)), (6, xi 0)] (by kernel_rfl) ?_
        refine wE ?_
        refine ⟨Or.inr rfl, [.one (vi 1), .one (vi (half l1)), .one (vi 0)], (by kernel_rfl), ?_⟩
        have hp : plan (half l0) (half l1) (half l2) r0 r1 r2 = (1, (half l1), 0) := by { unfold plan pick; (repeat' split) <;> first | rfl | (exfalso; omega) }
        rw [hp]; show List.mapM _ _ = _; kernel_rfl
       ·
        refine rSq [(1, xb false, H8)] [(2, yp n1), (3, yp n2), (9, xi 1), (10, xi (half l1)), (18, xi 1), (30, xb false)] H8
          (cast (JZ (Jk (H := H8) (t := 3) (u := 3) (a := (half l1)) (b := 0) (by omega))) (by kernel_rfl)) (by kernel_rfl) ?_
        refine wFk ?_
        exact hm13 (H8, (half l1)) ⟨(On.pick [0, 1] [] (by kernel_rfl) hs9), by omega⟩
    ·
     intro hm10
     refine wS (wB ?_)
     refine rS0 [(2, yp n1), (3, yp n2), (9, xi 0), (18, xi 0)] (by kernel_rfl) ?_
     have hhz31 := half_is (l0)
     by_cases c33 : (r0 : Int) < (half l0)
     ·
      refine rSq [(2, .y (.one (sv EN b0 nil0 capd0 l0)), H3), (3, xi (half l0), H3), (6, xi r0, H3), (7, xi r0, H3)] [(2, yp n1), (3, yp n2), (9, xi 0), (10, xi r0), (18, xi 0)] H3
        (cast (Jai (Ja (t := 22) (off := 0) (v := .one (sv EN b0 nil0 capd0 l0)) (On.at hs4 0 rfl) (by kernel_rfl)) (Jai (Jo (H := H3) (g := 7) (x := .one (sv EN b0 nil0 capd0 l0)) (res := [.one (vi (half l0))]) (fn7 _ _ _ l0 (by omega)) (by kernel_rfl) (by kernel_rfl)) (Jai (Ja (t := 3) (off := 0) (v := .one (vi r0)) (On.at hs4 1 rfl) (by kernel_rfl)) (JZ (Jl (vals := [xi (half l0), xi r0]) (H := H3) (op := .call { callee := .builtin .min, args := #[.tmp 0, .tmp 1], argTypes := #[3, 3] }) (ty := 0) (r := xi (if (r0 : Int) < (half l0) then r0 else (half l0))) (v := xi r0) (by kernel_rfl) (congrArg (fun z => xi z) (if_pos (by omega)))))))) (by kernel_rfl)) (by kernel_rfl) ?_
      by_cases c35 : (0 : Int) < r0
      ·
       refine rSq [(1, xb true, H3)] [(2, yp n1), (3, yp n2), (9, xi 0), (10, xi r0), (18, xi 0), (30, xb true)] H3
         (cast (JZ (Jd (H := H3) (t := 3) (u := 3) (a := r0) (b := 0) (by omega))) (by kernel_rfl)) (by kernel_rfl) ?_
       refine wTa ?_
       refine rS0 [(4, xi 0), (5, xi r0), (6, xi 0)] (by kernel_rfl) ?_
       refine wE ?_
       refine ⟨Or.inr rfl, [.one (vi 0), .one (vi r0), .one (vi 0)], (by kernel_rfl), ?_⟩
       have hp : plan (half l0) (half l1) (half l2) r0 r1 r2 = (0, r0, 0) := by { unfold plan pick; (repeat' split) <;> first | rfl | (exfalso; omega) }
       rw [hp]; show List.mapM _ _ = _; kernel_rfl
      ·
       refine rSq [(1, xb false, H3)] [(2, yp n1), (3, yp n2), (9, xi 0), (10, xi r0), (18, xi 0), (30, xb false)] H3
         (cast (JZ (Jk (H := H3) (t := 3) (u := 3) (a := r0) (b := 0) (by omega))) (by kernel_rfl)) (by kernel_rfl) ?_
       refine wFk ?_
       exact hm10 (H3, r0) ⟨(On.pick [0, 1] [] (by kernel_rfl) hs4), by omega⟩
     ·
      refine rSq [(2, .y (.one (sv EN b0 nil0 capd0 l0)), H3), (3, xi (half l0), H3), (6, xi r0, H3), (7, xi (half l0), H3)] [(2, yp n1), (3, yp n2), (9, xi 0), (10, xi (half l0)), (18, xi 0)] H3
        (cast (Jai (Ja (t := 22) (off := 0) (v := .one (sv EN b0 nil0 capd0 l0)) (On.at hs4 0 rfl) (by kernel_rfl)) (Jai (Jo (H := H3) (g := 7) (x := .one (sv EN b0 nil0 capd0 l0)) (res := [.one (vi (half l0))]) (fn7 _ _ _ l0 (by omega)) (by kernel_rfl) (by kernel_rfl)) (Jai (Ja (t := 3) (off := 0) (v := .one (vi r0)) (On.at hs4 1 rfl) (by kernel_rfl)) (JZ (Jl (vals := [xi (half l0), xi r0]) (H := H3) (op := .call { callee := .builtin .min, args := #[.tmp 0, .tmp 1], argTypes := #[3, 3] }) (ty := 0) (r := xi (if (r0 : Int) < (half l0) then r0 else (half l0))) (v := xi (half l0)) (by kernel_rfl) (congrArg (fun z => xi z) (if_neg (by omega)))))))) (by kernel_rfl)) (by kernel_rfl) ?_
      by_cases c37 : (0 : Int) < (half l0)
      ·
       refine rSq [(1, xb true, H3)] [(2, yp n1), (3, yp n2), (9, xi 0), (10, xi (half l0)), (18, xi 0), (30, xb true)] H3
         (cast (JZ (Jd (H := H3) (t := 3) (u := 3) (a := (half l0)) (b := 0) (by omega))) (by kernel_rfl)) (by kernel_rfl) ?_
       refine wTa ?_
       refine rS0 [(4, xi 0), (5, xi (half l0)), (6, xi 0)] (by kernel_rfl) ?_
       refine wE ?_
       refine ⟨Or.inr rfl, [.one (vi 0), .one (vi (half l0)), .one (vi 0)], (by kernel_rfl), ?_⟩
       have hp : plan (half l0) (half l1) (half l2) r0 r1 r2 = (0, (half l0), 0) := by { unfold plan pick; (repeat' split) <;> first | rfl | (exfalso; omega) }
       rw [hp]; show List.mapM _ _ = _; kernel_rfl
      ·
       refine rSq [(1, xb false, H3)] [(2, yp n1), (3, yp n2), (9, xi 0), (10, xi (half l0)), (18, xi 0), (30, xb false)] H3
         (cast (JZ (Jk (H := H3) (t := 3) (u := 3) (a := (half l0)) (b := 0) (by omega))) (by kernel_rfl)) (by kernel_rfl) ?_
       refine wFk ?_
       exact hm10 (H3, (half l0)) ⟨(On.pick [0, 1] [] (by kernel_rfl) hs4), by omega⟩
theorem fn12 (b0 nil0 capd0 b1 nil1 capd1 b2 nil2 capd2 : Bool) (l0 l1 l2 : List EN.T) (r0 r1 r2 : Int) (hl0 : (l0.length : Int) ≤ 4611686018427387904) (hl1 : (l1.length : Int) ≤ 4611686018427387904) (hl2 : (l2.length : Int) ≤ 4611686018427387904)  : PureC pg an 12 [.agg [sv EN b0 nil0 capd0 l0, sv EN b1 nil1 capd1 l1, sv EN b2 nil2 capd2 l2], .agg [vi r0, vi r1, vi r2]] [.one (vi (plan (half l0) (half l1) (half l2) r0 r1 r2).1), .one (vi (plan (half l0) (half l1) (half l2) r0 r1 r2).2.1), .one (vi (plan (half l0) (half l1) (half l2) r0 r1 r2).2.2)] := by
 suffices h : ∃ rs H', Runs pg an 12 [.agg [sv EN b0 nil0 capd0 l0, sv EN b1 nil1 capd1 l1, sv EN b2 nil2 capd2 l2], .agg [vi r0, vi r1, vi r2]] [] rs H' ∧ rs.mapM (backY H') = some [.one (vi (plan (half l0) (half l1) (half l2) r0 r1 r2).1), .one (vi (plan (half l0) (half l1) (half l2) r0 r1 r2).2.1), .one (vi (plan (half l0) (half l1) (half l2) r0 r1 r2).2.2)] by
  obtain ⟨rs, H', h1, h2⟩ := h
  exact ⟨rs, H', h1, h2⟩
 refine Runs.of (fn := Try.f12) Try.func12 rfl (by kernel_rfl) [(0, .y (.agg [sv EN b0 nil0 capd0 l0, sv EN b1 nil1 capd1 l1, sv EN b2 nil2 capd2 l2])), (1, .y (.agg [vi r0, vi r1, vi r2]))] (by kernel_rfl) ?_
 obtain ⟨n1, hn1⟩ : ∃ n, n = List.length ([] : HH) := ⟨_, rfl⟩
 obtain ⟨n2, hn2⟩ : ∃ n, n = List.length (([] ++ [.obj [sv EN b0 nil0 capd0 l0, sv EN b1 nil1 capd1 l1, sv EN b2 nil2 capd2 l2]]) : HH) := ⟨_, rfl⟩
 refine rSq [(0, yp n1, ([] ++ [.obj [sv EN b0 nil0 capd0 l0, sv EN b1 nil1 capd1 l1, sv EN b2 nil2 capd2 l2]])), (1, yp n2, (([] ++ [.obj [sv EN b0 nil0 capd0 l0, sv EN b1 nil1 capd1 l1, sv EN b2 nil2 capd2 l2]]) ++ [.obj [vi r0, vi r1, vi r2]]))] [(2, yp n1), (3, yp n2)] (([] ++ [.obj [sv EN b0 nil0 capd0 l0, sv EN b1 nil1 capd1 l1, sv EN b2 nil2 capd2 l2]]) ++ [.obj [vi r0, vi r1, vi r2]])
   (cast (Jai (Ji (H := []) (t := 23) (ty := 0) (n := n1) (v := .agg [sv EN b0 nil0 capd0 l0, sv EN b1 nil1 capd1 l1, sv EN b2 nil2 capd2 l2]) (cs := [sv EN b0 nil0 capd0 l0, sv EN b1 nil1 capd1 l1, sv EN b2 nil2 capd2 l2]) hn1 (by kernel_rfl) (by kernel_rfl) (by kernel_rfl)) (JZ (Ji (H := ([] ++ [.obj [sv EN b0 nil0 capd0 l0, sv EN b1 nil1 capd1 l1, sv EN b2 nil2 capd2 l2]])) (t := 24) (ty := 0) (n := n2) (v := .agg [vi r0, vi r1, vi r2]) (cs := [vi r0, vi r1, vi r2]) hn2 (by kernel_rfl) (by kernel_rfl) (by kernel_rfl)))) (by kernel_rfl)) (by kernel_rfl) ?_
 refine wG (On.new' hn2 (.obj [vi r0, vi r1, vi r2]) (On.new' hn1 (.obj [sv EN b0 nil0 capd0 l0, sv EN b1 nil1 capd1 l1, sv EN b2 nil2 capd2 l2]) (On.nil []))) ?_
 intro H3 hs4
 refine wS ?_
 refine rS0 [(2, yp n1), (3, yp n2), (7, xi 0)] (by kernel_rfl) ?_
 refine wB ?_
 refine Wp.loopU [(2, yp n1), (3, yp n2), (7, xi 0)] (some ([2, 3, 7], false)) (List.length H3) (by kernel_rfl) ?_
 refine WpL.step ?_
 refine wS ?_
 refine rS0 [(2, yp n1), (3, yp n2), (7, xi 0), (11, xb true)] (by kernel_rfl) ?_
 refine wTk ?_
 refine wS (wB ?_)
 by_cases c5 : (r0 : Int) < 0
 ·
  refine rSq [(2, xi r0, H3), (3, xb true, H3)] [(2, yp n1), (3, yp n2), (7, xi 0), (17, xb true)] H3
    (cast (Jai (Ja (t := 3) (off := 0) (v := .one (vi r0)) (On.at hs4 1 rfl) (by kernel_rfl)) (JZ (Jh (H := H3) (t := 3) (u := 3) (a := r0) (b := 0) (by omega)))) (by kernel_rfl)) (by kernel_rfl) ?_
  refine wTa ?_
  refine rS0 [(4, xi 0), (5, xi 0), (6, xi 1)] (by kernel_rfl) ?_
  refine wE ?_
  refine ⟨Or.inr rfl, [.one (vi 0), .one (vi 0), .one (vi 1)], (by kernel_rfl), ?_⟩
  have hp : plan (half l0) (half l1) (half l2) r0 r1 r2 = (0, 0, 1) := by { unfold plan pick; (repeat' split) <;> first | rfl | (exfalso; omega) }
  rw [hp]; show List.mapM _ _ = _; kernel_rfl
 ·
  refine rSq [(2, xi r0, H3), (3, xb false, H3)] [(2, yp n1), (3, yp n2), (7, xi 0), (17, xb false)] H3
    (cast (Jai (Ja (t := 3) (off := 0) (v := .one (vi r0)) (On.at hs4 1 rfl) (by kernel_rfl)) (JZ (Je (H := H3) (t := 3) (u := 3) (a := r0) (b := 0) (by omega)))) (by kernel_rfl)) (by kernel_rfl) ?_
  refine wFk ?_
  refine wR [] [(2, yp n1), (3, yp n2), (7, xi 1)] H3
    (cast trivial (by kernel_rfl)) (by kernel_rfl) ?_
  refine ⟨_, _, rfl, ?_⟩
  refine WpL.step ?_
  refine wS ?_
  refine rS0 [(2, yp n1), (3, yp n2), (7, xi 1), (11, xb true)] (by kernel_rfl) ?_
  refine wTk ?_
  refine wS (wB ?_)
  by_cases c6 : (r1 : Int) < 0
  ·
   refine rSq [(2, xi r1, H3), (3, xb true, H3)] [(2, yp n1), (3, yp n2), (7, xi 1), (17, xb true)] H3
     (cast (Jai (Ja (t := 3) (off := 1) (v := .one (vi r1)) (On.at hs4 1 rfl) (by kernel_rfl)) (JZ (Jh (H := H3) (t := 3) (u := 3) (a := r1) (b := 0) (by omega)))) (by kernel_rfl)) (by kernel_rfl) ?_
   refine wTa ?_
   refine rS0 [(4, xi 0), (5, xi 0), (6, xi 1)] (by kernel_rfl) ?_
   refine wE ?_
   refine ⟨Or.inr rfl, [.one (vi 0), .one (vi 0), .one (vi 1)], (by kernel_rfl), ?_⟩
   have hp : plan (half l0) (half l1) (half l2) r0 r1 r2 = (0, 0, 1) := by { unfold plan pick; (repeat' split) <;> first | rfl | (exfalso; omega) }
   rw [hp]; show List.mapM _ _ = _; kernel_rfl
  ·
   refine rSq [(2, xi r1, H3), (3, xb false, H3)] [(2, yp n1), (3, yp n2), (7, xi 1), (17, xb false)] H3
     (cast (Jai (Ja (t := 3) (off := 1) (v := .one (vi r1)) (On.at hs4 1 rfl) (by kernel_rfl)) (JZ (Je (H := H3) (t := 3) (u := 3) (a := r1) (b := 0) (by omega)))) (by kernel_rfl)) (by kernel_rfl) ?_
   refine wFk ?_
   refine wR [] [(2, yp n1), (3, yp n2), (7, xi 2)] H3
     (cast trivial (by kernel_rfl)) (by kernel_rfl) ?_
   refine ⟨_, _, rfl, ?_⟩
   refine WpL.step ?_
   refine wS ?_
   refine rS0 [(2, yp n1), (3, yp n2), (7, xi 2), (11, xb true)] (by kernel_rfl) ?_
   refine wTk ?_
   refine wS (wB ?_)
   by_cases c7 : (r2 : Int) < 0
   ·
    refine rSq [(2, xi r2, H3), (3, xb true, H3)] [(2, yp n1), (3, yp n2), (7, xi 2), (17, xb true)] H3
      (cast (Jai (Ja (t := 3) (off := 2) (v := .one (vi r2)) (On.at hs4 1 rfl) (by kernel_rfl)) (JZ (Jh (H := H3) (t := 3) (u := 3) (a := r2) (b := 0) (by omega)))) (by kernel_rfl)) (by kernel_rfl) ?_
    refine wTa ?_
    refine rS0 [(4, xi 0), (5, xi 0), (6, xi 1)] (by kernel_rfl) ?_
    refine wE ?_
    refine ⟨Or.inr rfl, [.one (vi 0), .one (vi 0), .one (vi 1)], (by kernel_rfl), ?_⟩
    have hp : plan (half l0) (half l1) (half l2) r0 r1 r2 = (0, 0, 1) := by { unfold plan pick; (repeat' split) <;> first | rfl | (exfalso; omega) }
    rw [hp]; show List.mapM _ _ = _; kernel_rfl
   ·
    refine rSq [(2, xi r2, H3), (3, xb false, H3)] [(2, yp n1), (3, yp n2), (7, xi 2), (17, xb false)] H3
      (cast (Jai (Ja (t := 3) (off := 2) (v := .one (vi r2)) (On.at hs4 1 rfl) (by kernel_rfl)) (JZ (Je (H := H3) (t := 3) (u := 3) (a := r2) (b := 0) (by omega)))) (by kernel_rfl)) (by kernel_rfl) ?_
    refine wFk ?_
    refine wR [] [(2, yp n1), (3, yp n2), (7, xi 3)] H3
      (cast trivial (by kernel_rfl)) (by kernel_rfl) ?_
    refine ⟨_, _, rfl, ?_⟩
    refine WpL.step ?_
    refine wS ?_
    refine rS0 [(2, yp n1), (3, yp n2), (7, xi 3), (11, xb false)] (by kernel_rfl) ?_
    refine wFa ?_
    refine wX ?_
    refine Eq.mpr (if_pos rfl) ?_
    refine wS ?_
    refine rS0 [(2, yp n1), (3, yp n2), (8, xi 0)] (by kernel_rfl) ?_
    refine wB ?_
    refine Wp.loopU [(2, yp n1), (3, yp n2), (8, xi 0)] (some ([2, 3, 8], false)) (List.length H3) (by kernel_rfl) ?_
    refine WpL.step ?_
    refine wS ?_
    refine rS0 [(2, yp n1), (3, yp n2), (8, xi 0), (19, xb true)] (by kernel_rfl) ?_
    refine wTk ?_
    refine Wp.meet 1 (T := HH × Int) (fun t => match t with | (H8, hq0) => ([(2, yp n1), (3, yp n2), (8, xi 0), (9, xi hq0), (35, xb false)] : Env)) (fun t => match t with | (H8, hq0) => (H8 : HH)) (fun t => match t with | (H8, hq0) => (On [pts n1 (.obj [sv EN b0 nil0 capd0 l0, sv EN b1 nil1 capd1 l1, sv EN b2 nil2 capd2 l2]), pts n2 (.obj [vi r0, vi r1, vi r2])] H8 ∧ (half l0 ≤ 0 ∨ r0 ≤ 0) : Prop)) ?_ ?_
    ·
     rintro ⟨H8, hq0⟩ ⟨hs9, hm09⟩
     show Wp _ _ _ _ [(2, yp n1), (3, yp n2), (8, xi 0), (9, xi hq0), (35, xb false)] H8 _
     refine wR [] [(2, yp n1), (3, yp n2), (8, xi 1)] H8
       (cast trivial (by kernel_rfl)) (by kernel_rfl) ?_
     refine ⟨_, _, rfl, ?_⟩
     refine WpL.step ?_
     refine wS ?_
     refine rS0 [(2, yp n1), (3, yp n2), (8, xi 1), (19, xb true)] (by kernel_rfl) ?_
     refine wTk ?_
     refine Wp.meet 1 (T := HH × Int) (fun t => match t with | (H11, hq1) => ([(2, yp n1), (3, yp n2), (8, xi 1), (9, xi hq1), (35, xb false)] : Env)) (fun t => match t with | (H11, hq1) => (H11 : HH)) (fun t => match t with | (H11, hq1) => (On [pts n1 (.obj [sv EN b0 nil0 capd0 l0, sv EN b1 nil1 capd1 l1, sv EN b2 nil2 capd2 l2]), pts n2 (.obj [vi r0, vi r1, vi r2])] H11 ∧ (half l1 ≤ 0 ∨ r1 ≤ 0) : Prop)) ?_ ?_
     ·
      rintro ⟨H11, hq1⟩ ⟨hs12, hm19⟩
      show Wp _ _ _ _ [(2, yp n1), (3, yp n2), (8, xi 1), (9, xi hq1), (35, xb false)] H11 _
      refine wR [] [(2, yp n1), (3, yp n2), (8, xi 2)] H11
        (cast trivial (by kernel_rfl)) (by kernel_rfl) ?_
      refine ⟨_, _, rfl, ?_⟩
      refine WpL.step ?_
      refine wS ?_
      refine rS0 [(2, yp n1), (3, yp n2), (8, xi 2), (19, xb true)] (by kernel_rfl) ?_
      refine wTk ?_
      refine Wp.meet 1 (T := HH × Int) (fun t => match t with | (H14, hq2) => ([(2, yp n1), (3, yp n2), (8, xi 2), (9, xi hq2), (35, xb false)] : Env)) (fun t => match t with | (H14, hq2) => (H14 : HH)) (fun t => match t with | (H14, hq2) => (On [pts n1 (.obj [sv EN b0 nil0 capd0 l0, sv EN b1 nil1 capd1 l1, sv EN b2 nil2 capd2 l2]), pts n2 (.obj [vi r0, vi r1, vi r2])] H14 ∧ (half l2 ≤ 0 ∨ r2 ≤ 0) : Prop)) ?_ ?_
      ·
       rintro ⟨H14, hq2⟩ ⟨hs15, hm29⟩
       show Wp _ _ _ _ [(2, yp n1), (3, yp n2), (8, xi 2), (9, xi hq2), (35, xb false)] H14 _
       refine wR [] [(2, yp n1), (3, yp n2), (8, xi 3)] H14
         (cast trivial (by kernel_rfl)) (by kernel_rfl) ?_
       refine ⟨_, _, rfl, ?_⟩
       refine WpL.step ?_
       refine wS ?_
       refine rS0 [(2, yp n1), (3, yp n2), (8, xi 3), (19, xb false)] (by kernel_rfl) ?_
       refine wFa ?_
       refine wX ?_
       refine Eq.mpr (if_pos rfl) ?_
       refine rS0 [(4, xi 0), (5, xi 0), (6, xi 3)] (by kernel_rfl) ?_
       refine wE ?_
       refine ⟨Or.inr rfl, [.one (vi 0), .one (vi 0), .one (vi 3)], (by kernel_rfl), ?_⟩
       have hp : plan (half l0) (half l1) (half l2) r0 r1 r2 = (0, 0, 3) := by { unfold plan pick; (repeat' split) <;> first | rfl | (exfalso; omega) }
       rw [hp]; show List.mapM _ _ = _; kernel_rfl
      ·
       intro hm16
       refine wS (wB ?_)
       have hhz17 := half_is (l2)
       refine rSq [(2, .y (.one (sv EN b2 nil2 capd2 l2)), H11), (3, xi (half l2), H11)] [(2, yp n1), (3, yp n2), (8, xi 2), (9, xi (half l2))] H11
         (cast (Jai (Ja (t := 22) (off := 2) (v := .one (sv EN b2 nil2 capd2 l2)) (On.at hs12 0 rfl) (by kernel_rfl)) (JZ (Jo (H := H11) (g := 8) (x := .one (sv EN b2 nil2 capd2 l2)) (res := [.one (vi (half l2))]) (fn8 _ _ _ l2 (by omega)) (by kernel_rfl) (by kernel_rfl)))) (by kernel_rfl)) (by kernel_rfl) ?_
       refine wS ?_
       by_cases c19 : (r2 : Int) < (half l2)
       ·
        refine rSq [(3, xi r2, H11), (4, xb true, H11)] [(2, yp n1), (3, yp n2), (8, xi 2), (9, xi (half l2)), (30, xb true)] H11
          (cast (Jai (Ja (t := 3) (off := 2) (v := .one (vi r2)) (On.at hs12 1 rfl) (by kernel_rfl)) (JZ (Jd (H := H11) (t := 3) (u := 3) (a := (half l2)) (b := r2) (by omega)))) (by kernel_rfl)) (by kernel_rfl) ?_
        refine wTa ?_
        refine wR [(2, xi r2, H11)] [(2, yp n1), (3, yp n2), (8, xi 2), (9, xi r2)] H11
          (cast (JZ (Ja (t := 3) (off := 2) (v := .one (vi r2)) (On.at hs12 1 rfl) (by kernel_rfl))) (by kernel_rfl)) (by kernel_rfl) ?_
        by_cases c20 : (0 : Int) < r2
        ·
         refine rSq [(1, xb true, H11)] [(2, yp n1), (3, yp n2), (8, xi 2), (9, xi r2), (35, xb true)] H11
           (cast (JZ (Jd (H := H11) (t := 3) (u := 3) (a := r2) (b := 0) (by omega))) (by kernel_rfl)) (by kernel_rfl) ?_
         refine wTa ?_
         refine rS0 [(4, xi 2), (5, xi r2), (6, xi 0)] (by kernel_rfl) ?_
         refine wE ?_
         refine ⟨Or.inr rfl, [.one (vi 2), .one (vi r2), .one (vi 0)], (by kernel_rfl), ?_⟩
         have hp : plan (half l0) (half l1) (half l2) r0 r1 r2 = (2, r2, 0) := by { unfold plan pick; (repeat' split) <;> first | rfl | (exfalso; omega) }
         rw [hp]; show List.mapM _ _ = _; kernel_rfl
        ·
         refine rSq [(1, xb false, H11)] [(2, yp n1), (3, yp n2), (8, xi 2), (9, xi r2), (35, xb false)] H11
           (cast (JZ (Jk (H := H11) (t := 3) (u := 3) (a := r2) (b := 0) (by omega))) (by kernel_rfl)) (by kernel_rfl) ?_
         refine wFk ?_
         exact hm16 (H11, r2) ⟨(On.pick [0, 1] [] (by kernel_rfl) hs12), by omega⟩
       ·
        refine rSq [(3, xi r2, H11), (4, xb false, H11)] [(2, yp n1), (3, yp n2), (8, xi 2), (9, xi (half l2)), (30, xb false)] H11
          (cast (Jai (Ja (t := 3) (off := 2) (v := .one (vi r2)) (On.at hs12 1 rfl) (by kernel_rfl)) (JZ (Jk (H := H11) (t := 3) (u := 3) (a := (half l2)) (b := r2) (by omega)))) (by kernel_rfl)) (by kernel_rfl) ?_
        refine wFk ?_
        by_cases c21 : (0 : Int) < (half l2)
        ·
         refine rSq [(1, xb true, H11)] [(2, yp n1), (3, yp n2), (8, xi 2), (9, xi (half l2)), (35, xb true)] H11
           (cast (JZ (Jd (H := H11) (t := 3) (u := 3) (a := (half l2)) (b := 0) (by omega))) (by kernel_rfl)) (by kernel_rfl) ?_
         refine wTa ?_
         refine rS0 [(4, xi 2), (5, xi (half l2)), (6, xi 0)] (by kernel_rfl) ?_
         refine wE ?_
         refine ⟨Or.inr rfl, [.one (vi 2), .one (vi (half l2)), .one (vi 0)], (by kernel_rfl), ?_⟩
         have hp : plan (half l0) (half l1) (half l2) r0 r1 r2 = (2, (half l2), 0) := by { unfold plan pick; (repeat' split) <;> first | rfl | (exfalso; omega) }
         rw [hp]; show List.mapM _ _ = _; kernel_rfl
        ·
         refine rSq [(1, xb false, H11)] [(2, yp n1), (3, yp n2), (8, xi 2), (9, xi (half l2)), (35, xb false)] H11
           (cast (JZ (Jk (H := H11) (t := 3) (u := 3) (a := (half l2)) (b := 0) (by omega))) (by kernel_rfl)) (by kernel_rfl) ?_
         refine wFk ?_
         exact hm16 (H11, (half l2)) ⟨(On.pick [0, 1] [] (by kernel_rfl) hs12), by omega⟩
     ·
      intro hm13
      refine wS (wB ?_)
      have hhz22 := half_is (l1)
      refine rSq [(2, .y (.one (sv EN b1 nil1 capd1 l1)), H8), (3, xi (half l1), H8)] [(2, yp n1), (3, yp n2), (8, xi 1), (9, xi (half l1))] H8
        (cast (Jai (Ja (t := 22) (off := 1) (v := .one (sv EN b1 nil1 capd1 l1)) (On.at hs9 0 rfl) (by kernel_rfl)) (JZ (Jo (H := H8) (g := 8) (x := .one (sv EN b1 nil1 capd1 l1)) (res := [.one (vi (half l1))]) (fn8 _ _ _ l1 (by omega)) (by kernel_rfl) (by kernel_rfl)))) (by kernel_rfl)) (by kernel_rfl) ?_
      refine wS ?_
      by_cases c24 : (r1 : Int) < (half l1)
      ·
       refine rSq [(3, xi r1, H8), (4, xb true, H8)] [(2, yp n1), (3, yp n2), (8, xi 1), (9, xi (half l1)), (30, xb true)] H8
         (cast (Jai (Ja (t := 3) (off := 1) (v := .one (vi r1)) (On.at hs9 1 rfl) (by kernel_rfl)) (JZ (Jd (H := H8) (t := 3) (u := 3) (a := (half l1)) (b := r1) (by omega)))) (by kernel_rfl)) (by kernel_rfl) ?_
       refine wTa ?_
       refine wR [(2, xi r1, H8)] [(2, yp n1), (3, yp n2), (8, xi 1), (9, xi r1)] H8
         (cast (JZ (Ja (t := 3) (off := 1) (v := .one (vi r1)) (On.at hs9 1 rfl) (by kernel_rfl))) (by kernel_rfl)) (by kernel_rfl) ?_
       by_cases c25 : (0 : Int) < r1
       ·
        refine rSq [(1, xb true, H8)] [(2, yp n1), (3, yp n2), (8, xi 1), (9, xi r1), (35, xb true)] H8
          (cast (JZ (Jd (H := H8) (t := 3) (u := 3) (a := r1) (b := 0) (by omega))) (by kernel_rfl)) (by kernel_rfl) ?_
        refine wTa ?_
        refine rS0 [(4, xi 1), (5, xi r1), (6, xi 0)] (by kernel_rfl) ?_
        refine wE ?_
        refine ⟨Or.inr rfl, [.one (vi 1), .one (vi r1), .one (vi 0)], (by kernel_rfl), ?_⟩
        have hp : plan (half l0) (half l1) (half l2) r0 r1 r2 = (1, r1, 0) := by { unfold plan pick; (repeat' split) <;> first | rfl | (exfalso; omega) }
        rw [hp]; show List.mapM _ _ = _; kernel_rfl
       ·
        refine rSq [(1, xb false, H8)] [(2, yp n1), (3, yp n2), (8, xi 1), (9, xi r1), (35, xb false)] H8
          (cast (JZ (Jk (H := H8) (t := 3) (u := 3) (a := r1) (b := 0) (by omega))) (by kernel_rfl)) (by kernel_rfl) ?_
        refine wFk ?_
        exact hm13 (H8, r1) ⟨(On.pick [0, 1] [] (by kernel_rfl) hs9), by omega⟩
      ·
       refine rSq [(3, xi r1, H8), (4, xb false, H8)] [(2, yp n1), (3, yp n2), (8, xi 1), (9, xi (half l1)), (30, xb false)] H8
         (cast (Jai (Ja (t := 3) (off := 1) (v := .one (vi r1)) (On.at hs9 1 rfl) (by kernel_rfl)) (JZ (Jk (H := H8) (t := 3) (u := 3) (a := (half l1)) (b := r1) (by omega)))) (by kernel_rfl)) (by kernel_rfl) ?_
       refine wFk ?_
       by_cases c26 : (0 : Int) < (half l1)
       ·
        refine rSq [(1, xb true, H8)] [(2, yp n1), (3, yp n2), (8, xi 1), (9, xi (half l1)), (35, xb true)] H8
          (cast (JZ (Jd (H := H8) (t := 3) (u := 3) (a := (half l1)) (b := 0) (by omega))) (by kernel_rfl)) (by kernel_rfl) ?_
        refine wTa ?_
        refine rS0 [(4, xi 1), (5, xi (half l1)), (6, xi 0)] (by kernel_rfl) ?_
        refine wE ?_
        refine ⟨Or.inr rfl, [.one (vi 1), .one (vi (half l1)), .one (vi 0)], (by kernel_rfl), ?_⟩
        have hp : plan (half l0) (half l1) (half l2) r0 r1 r2 = (1, (half l1), 0) := by { unfold plan pick; (repeat' split) <;> first | rfl | (exfalso; omega) }
        rw [hp]; show List.mapM _ _ = _; kernel_rfl
       ·
        refine rSq [(1, xb false, H8)] [(2, yp n1), (3, yp n2), (8, xi 1), (9, xi (half l1)), (35, xb false)] H8
          (cast (JZ (Jk (H := H8) (t := 3) (u := 3) (a := (half l1)) (b := 0) (by omega))) (by kernel_rfl)) (by kernel_rfl) ?_
        refine wFk ?_
        exact hm13 (H8, (half l1)) ⟨(On.pick [0, 1] [] (by kernel_rfl) hs9), by omega⟩
    ·
     intro hm10
     refine wS (wB ?_)
     have hhz27 := half_is (l0)
     refine rSq [(2, .y (.one (sv EN b0 nil0 capd0 l0)), H3), (3, xi (half l0), H3)] [(2, yp n1), (3, yp n2), (8, xi 0), (9, xi (half l0))] H3
       (cast (Jai (Ja (t := 22) (off := 0) (v := .one (sv EN b0 nil0 capd0 l0)) (On.at hs4 0 rfl) (by kernel_rfl)) (JZ (Jo (H := H3) (g := 8) (x := .one (sv EN b0 nil0 capd0 l0)) (res := [.one (vi (half l0))]) (fn8 _ _ _ l0 (by omega)) (by kernel_rfl) (by kernel_rfl)))) (by kernel_rfl)) (by kernel_rfl) ?_
     refine wS ?_
     by_cases c29 : (r0 : Int) < (half l0)
     ·
      refine rSq [(3, xi r0, H3), (4, xb true, H3)] [(2, yp n1), (3, yp n2), (8, xi 0), (9, xi (half l0)), (30, xb true)] H3
        (cast (Jai (Ja (t := 3) (off := 0) (v := .one (vi r0)) (On.at hs4 1 rfl) (by kernel_rfl)) (JZ (Jd (H := H3) (t := 3) (u := 3) (a := (half l0)) (b := r0) (by omega)))) (by kernel_rfl)) (by kernel_rfl) ?_
      refine wTa ?_
      refine wR [(2, xi r0, H3)] [(2, yp n1), (3, yp n2), (8, xi 0), (9, xi r0)] H3
        (cast (JZ (Ja (t := 3) (off := 0) (v := .one (vi r0)) (On.at hs4 1 rfl) (by kernel_rfl))) (by kernel_rfl)) (by kernel_rfl) ?_
      by_cases c30 : (0 : Int) < r0
      ·
       refine rSq [(1, xb true, H3)] [(2, yp n1), (3, yp n2), (8, xi 0), (9, xi r0), (35, xb true)] H3
         (cast (JZ (Jd (H := H3) (t := 3) (u := 3) (a := r0) (b := 0) (by omega))) (by kernel_rfl)) (by kernel_rfl) ?_
       refine wTa ?_
       refine rS0 [(4, xi 0), (5, xi r0), (6, xi 0)] (by kernel_rfl) ?_
       refine wE ?_
       refine ⟨Or.inr rfl, [.one (vi 0), .one (vi r0), .one (vi 0)], (by kernel_rfl), ?_⟩
       have hp : plan (half l0) (half l1) (half l2) r0 r1 r2 = (0, r0, 0) := by { unfold plan pick; (repeat' split) <;> first | rfl | (exfalso; omega) }
       rw [hp]; show List.mapM _ _ = _; kernel_rfl
      ·
       refine rSq [(1, xb false, H3)] [(2, yp n1), (3, yp n2), (8, xi 0), (9, xi r0), (35, xb false)] H3
         (cast (JZ (Jk (H := H3) (t := 3) (u := 3) (a := r0) (b := 0) (by omega))) (by kernel_rfl)) (by kernel_rfl) ?_
       refine wFk ?_
       exact hm10 (H3, r0) ⟨(On.pick [0, 1] [] (by kernel_rfl) hs4), by omega⟩
     ·
      refine rSq [(3, xi r0, H3), (4, xb false, H3)] [(2, yp n1), (3, yp n2), (8, xi 0), (9, xi (half l0)), (30, xb false)] H3
        (cast (Jai (Ja (t := 3) (off := 0) (v := .one (vi r0)) (On.at hs4 1 rfl) (by kernel_rfl)) (JZ (Jk (H := H3) (t := 3) (u := 3) (a := (half l0)) (b := r0) (by omega)))) (by kernel_rfl)) (by kernel_rfl) ?_
      refine wFk ?_
      by_cases c31 : (0 : Int) < (half l0)
      ·
       refine rSq [(1, xb true, H3)] [(2, yp n1), (3, yp n2), (8, xi 0), (9, xi (half l0)), (35, xb true)] H3
         (cast (JZ (Jd (H := H3) (t := 3) (u := 3) (a := (half l0)) (b := 0) (by omega))) (by kernel_rfl)) (by kernel_rfl) ?_
       refine wTa ?_
       refine rS0 [(4, xi 0), (5, xi (half l0)), (6, xi 0)] (by kernel_rfl) ?_
       refine wE ?_
       refine ⟨Or.inr rfl, [.one (vi 0), .one (vi (half l0)), .one (vi 0)], (by kernel_rfl), ?_⟩
       have hp : plan (half l0) (half l1) (half l2) r0 r1 r2 = (0, (half l0), 0) := by { unfold plan pick; (repeat' split) <;> first | rfl | (exfalso; omega) }
       rw [hp]; show List.mapM _ _ = _; kernel_rfl
      ·
       refine rSq [(1, xb false, H3)] [(2, yp n1), (3, yp n2), (8, xi 0), (9, xi (half l0)), (35, xb false)] H3
         (cast (JZ (Jk (H := H3) (t := 3) (u := 3) (a := (half l0)) (b := 0) (by omega))) (by kernel_rfl)) (by kernel_rfl) ?_
       refine wFk ?_
       exact hm10 (H3, (half l0)) ⟨(On.pick [0, 1] [] (by kernel_rfl) hs4), by omega⟩
theorem copyc_ok (R : HP) (H : HH) (c ks q0 q1 q2 : Nat) (S : List Int) (hand : Int) (l0 l1 l2 : List EN.T) (hs : On [R, pts c (.obj [rff ks S, vi hand, .ptr q0 0, .ptr q1 0, .ptr q2 0]), pts ks (rowO NI true 0 S), ringP EN q0 64 l0, ringP EN q1 64 l1, ringP EN q2 64 l2] H) (hS : 3 ≤ (S.length : Int)) (hT : (S.length : Int) ≤ 64) (b0 : (l0.length : Int) ≤ 64) (b1 : (l1.length : Int) ≤ 64) (b2 : (l2.length : Int) ≤ 64) : ∃ rs H', Runs pg an 25 [.one (.ptr c 0)] H rs H' ∧ ∃ c', rs = [.one (.ptr c' 0)] ∧ On [R, pts c (.obj [rff ks S, vi hand, .ptr q0 0, .ptr q1 0, .ptr q2 0]), pts ks (rowO NI true 0 S), ringP EN q0 64 l0, ringP EN q1 64 l1, ringP EN q2 64 l2] H' := by
 refine Runs.of (fn := Try.f25) Try.func25 rfl (by kernel_rfl) [(0, yp c)] (by kernel_rfl) ?_
 refine rS0 [(0, yp c)] (by kernel_rfl) ?_
 refine wS ?_
 have hcall1 : Runs pg an 33 [.one (.ptr c 0)] H [.one (vb true)] H := by
  refine runs_of ?_
  refine Runs.of (fn := Try.f33) Try.func33 rfl (by kernel_rfl) [(0, yp c)] (by kernel_rfl) ?_
  refine rS0 [(0, yp c)] (by kernel_rfl) ?_
  refine rSq [(6, .y (.one (rff ks S)), H), (7, xi (S.length : Int), H), (8, xb true, H)] [(2, xb true)] H
    (cast (Jai (Ja (t := 36) (off := 0) (v := .one (rff ks S)) (On.at hs 1 rfl) (by kernel_rfl)) (Jai (Jm (H := H) (s := NI) (t := 36) (ty := 0) (pu := true) (capd := false) (id := ks) (d := 0) (o := 0) (n := S.length) (l := S) (e := (S.length : Int)) (On.at hs 2 rfl) (by kernel_rfl) (by first | rfl | omega | simp <;> omega)) (JZ (Jd (H := H) (t := 3) (u := 3) (a := (S.length : Int)) (b := 0) (by omega))))) (by kernel_rfl)) (by kernel_rfl) ?_
  refine wE ?_
  exact ⟨Or.inr rfl, [.one (vb true)], (by kernel_rfl), ⟨rfl, rfl⟩⟩
 refine rSq [(1, xb true, H)] [(0, yp c), (7, xb false)] H
   (cast (JZ (Jb hcall1 (by kernel_rfl))) (by kernel_rfl)) (by kernel_rfl) ?_
 refine wFk ?_
 obtain ⟨n3, hn3⟩ : ∃ n, n = List.length ((hideH [c] H) : HH) := ⟨_, rfl⟩
 obtain ⟨n5, hn5⟩ : ∃ n, n = List.length ((backH [c] H ((hideH [c] H) ++ [rowO NI true 0 S])) : HH) := ⟨_, rfl⟩
 have hcall6 : Runs pg an 37 [.one (rff ks S)] (hideH [c] H) [.one (rff n3 S)] ((hideH [c] H) ++ [rowO NI true 0 S]) := by
  refine runs_of ?_
  refine Runs.of (fn := Try.f37) Try.func37 rfl (by kernel_rfl) [(0, .y (.one (rff ks S)))] (by kernel_rfl) ?_
  refine rS0 [(0, .y (.one (rff ks S)))] (by kernel_rfl) ?_
  refine wS ?_
  refine rS0 [(0, .y (.one (rff ks S))), (4, xb false)] (by kernel_rfl) ?_
  refine wFk ?_
  refine rSq [(2, .y (.one (rff n3 S)), ((hideH [c] H) ++ [rowO NI true 0 S]))] [(2, .y (.one (rff n3 S)))] ((hideH [c] H) ++ [rowO NI true 0 S])
    (cast (JZ (Jb1 (H := (hideH [c] H)) (s := NI) (t := 36) (u := 36) (el := 3) (by_ := 8) (z := [vi 0]) (ty := 0) (b' := false) (nil' := false) (pu := true) (puy := true) (m := S.length) (n' := S.length) (k := n3) (nl := 0) (l := ([] : List Int)) (lm := S) (l' := S) (y := rff ks S) hn3 (by first | rfl | omega | (simp only [List.length_nil]; omega) | simp <;> omega) (by kernel_rfl) (slCells_rowO (H := (hideH [c] H)) (s := NI) (pu := true) (capd := false) (id := ks) (d := 0) (o := 0) (n := S.length) (l := S) (m := S) (On.at (On.hide1 hs 1 rfl) 2 rfl) (by first | rfl | omega | (simp only [List.length_nil]; omega) | simp <;> omega) (dt0 rfl (Nat.le_refl _))) (by kernel_rfl) (by kernel_rfl) (by kernel_rfl) (by kernel_rfl) (by kernel_rfl) (by kernel_rfl) (by kernel_rfl) (by first | rfl | omega | (simp only [List.length_nil]; omega) | simp <;> omega) (by first | rfl | omega | (simp only [List.length_nil]; omega) | simp <;> omega) (by omega) (by omega) (List.nil_append _) (by first | rfl | omega | (simp only [List.length_append, List.length_nil]; omega) | (simp; done) | (simp; omega)))) (by kernel_rfl)) (by kernel_rfl) ?_
  refine wE ?_
  exact ⟨Or.inr rfl, [.one (rff n3 S)], (by kernel_rfl), ⟨rfl, rfl⟩⟩
 refine rSq [(3, .y (.one (rff ks S)), H), (4, .y (.one (rff n3 S)), (backH [c] H ((hideH [c] H) ++ [rowO NI true 0 S]))), (8, xi hand, (backH [c] H ((hideH [c] H) ++ [rowO NI true 0 S]))), (10, yp n5, ((backH [c] H ((hideH [c] H) ++ [rowO NI true 0 S])) ++ [.obj [rff n3 S, vi hand, .sc (.pointer none), .sc (.pointer none), .sc (.pointer none)]]))] [(0, yp c), (3, yp n5)] ((backH [c] H ((hideH [c] H) ++ [rowO NI true 0 S])) ++ [.obj [rff n3 S, vi hand, .sc (.pointer none), .sc (.pointer none), .sc (.pointer none)]])
   (cast (Jai (Ja (t := 36) (off := 0) (v := .one (rff ks S)) (On.at hs 1 rfl) (by kernel_rfl)) (Jai (ob_out (M := [c]) (H := H) (H' := ((hideH [c] H) ++ [rowO NI true 0 S])) (H2 := (backH [c] H ((hideH [c] H) ++ [rowO NI true 0 S]))) (mayHide1 (On.at hs 1 rfl) (by have g0 := lt_of_get (On.at hs 2 rfl); have g1 := ring_lt hs 3 rfl; have g2 := ring_lt hs 4 rfl; have g3 := ring_lt hs 5 rfl; simp [O.inH, C.inH, g0, g1, g2, g3])) (Jb hcall6 (by kernel_rfl)) rfl) (Jai (ob_ins (H := (backH [c] H ((hideH [c] H) ++ [rowO NI true 0 S]))) (Ja (t := 3) (off := 1) (v := .one (vi hand)) (onlyH_at (M := [c]) (by simp) (On.at (On.back1 (On.new' hn3 (rowO NI true 0 S) (On.hide1 hs 1 rfl)) 1 rfl (On.at hs 1 rfl)) 1 rfl)) (by kernel_rfl))) (JZ (Ji (H := (backH [c] H ((hideH [c] H) ++ [rowO NI true 0 S]))) (t := 55) (ty := 0) (n := n5) (v := .agg [rff n3 S, vi hand, .sc (.pointer none), .sc (.pointer none), .sc (.pointer none)]) (cs := [rff n3 S, vi hand, .sc (.pointer none), .sc (.pointer none), .sc (.pointer none)]) hn5 (by kernel_rfl) (by kernel_rfl) (by kernel_rfl)))))) (by kernel_rfl)) (by kernel_rfl) ?_
 refine wG (On.new' hn5 (.obj [rff n3 S, vi hand, .sc (.pointer none), .sc (.pointer none), .sc (.pointer none)]) (On.back1 (On.new' hn3 (rowO NI true 0 S) (On.hide1 hs 1 rfl)) 1 rfl (On.at hs 1 rfl))) ?_
 intro H7 hs8
 refine wS ?_
 refine rS0 [(0, yp c), (3, yp n5), (19, xi 0)] (by kernel_rfl) ?_
 refine wB ?_
 refine Wp.loopU [(0, yp c), (3, yp n5), (19, xi 0)] (some ([0, 3, 19], false)) (List.length H7) (by kernel_rfl) ?_
 refine WpL.step ?_
 refine rS0 [(0, yp c), (3, yp n5), (19, xi 0), (20, xb true)] (by kernel_rfl) ?_
 refine wS (wTk ?_)
 refine wS (wB ?_)
 refine rS0 [(0, yp c), (3, yp n5), (4, xi 0), (19, xi 0)] (by kernel_rfl) ?_
 obtain ⟨_, H10, hr11, q9, rfl, hs12⟩ := copy_ok _ (H7 : HH) (On.call [3] [0, 1, 2, 4, 5, 6, 7] (by kernel_rfl) hs8) (q := q0) (room := 64) (l := l0)
 have hs12 : On [R, pts c (.obj [rff ks S, vi hand, .ptr q0 0, .ptr q1 0, .ptr q2 0]), pts ks (rowO NI true 0 S), ringP EN q1 64 l1, ringP EN q2 64 l2, pts n3 (rowO NI true 0 S), pts n5 (.obj [rff n3 S, vi hand, .sc (.pointer none), .sc (.pointer none), .sc (.pointer none)]), ringP EN q0 64 l0, ringP EN q9 64 l0] H10 := On.flat hs12
 refine rKq [(8, yp q0, H7), (9, yp q9, H10), (14, .tup [], (sto H10 n5 (.obj [rff n3 S, vi hand, .ptr q9 0, .sc (.pointer none), .sc (.pointer none)])))] [(0, yp c), (3, yp n5), (19, xi 0)] (sto H10 n5 (.obj [rff n3 S, vi hand, .ptr q9 0, .sc (.pointer none), .sc (.pointer none)]))
   (cast (Jai (Ja (t := 50) (off := 2) (v := .one (.ptr q0 0)) (On.at hs8 1 rfl) (by kernel_rfl)) (Jai (Jb hr11 (by kernel_rfl)) (JZ (Jc (t := 52) (off := 2) (v := .agg [.ptr q9 0]) (On.at hs12 6 rfl) (by kernel_rfl))))) (by kernel_rfl)) (by kernel_rfl) ?_
 refine wG (On.put (.obj [rff n3 S, vi hand, .ptr q9 0, .sc (.pointer none), .sc (.pointer none)]) hs12 6 rfl) ?_
 intro H13 hs14
 refine wK ?_
 refine wR [] [(0, yp c), (3, yp n5), (19, xi 1)] H13
   (cast trivial (by kernel_rfl)) (by kernel_rfl) ?_
 refine ⟨_, _, rfl, ?_⟩
 refine WpL.step ?_
 refine rS0 [(0, yp c), (3, yp n5), (19, xi 1), (20, xb true)] (by kernel_rfl) ?_
 refine wS (wTk ?_)
 refine wS (wB ?_)
 refine rS0 [(0, yp c), (3, yp n5), (4, xi 1), (19, xi 1)] (by kernel_rfl) ?_
 obtain ⟨_, H16, hr17, q15, rfl, hs18⟩ := copy_ok _ (H13 : HH) (On.call [3] [0, 1, 2, 4, 5, 6, 7, 8] (by kernel_rfl) hs14) (q := q1) (room := 64) (l := l1)
 have hs18 : On [R, pts c (.obj [rff ks S, vi hand, .ptr q0 0, .ptr q1 0, .ptr q2 0]), pts ks (rowO NI true 0 S), ringP EN q2 64 l2, pts n3 (rowO NI true 0 S), pts n5 (.obj [rff n3 S, vi hand, .ptr q9 0, .sc (.pointer none), .sc (.pointer none)]), ringP EN q0 64 l0, ringP EN q9 64 l0, ringP EN q1 64 l1, ringP EN q15 64 l1] H16 := On.flat hs18
 refine rKq [(8, yp q1, H13), (9, yp q15, H16), (14, .tup [], (sto H16 n5 (.obj [rff n3 S, vi hand, .ptr q9 0, .ptr q15 0, .sc (.pointer none)])))] [(0, yp c), (3, yp n5), (19, xi 1)] (sto H16 n5 (.obj [rff n3 S, vi hand, .ptr q9 0, .ptr q15 0, .sc (.pointer none)]))
   (cast (Jai (Ja (t := 50) (off := 3) (v := .one (.ptr q1 0)) (On.at hs14 1 rfl) (by kernel_rfl)) (Jai (Jb hr17 (by kernel_rfl)) (JZ (Jc (t := 52) (off := 3) (v := .agg [.ptr q15 0]) (On.at hs18 5 rfl) (by kernel_rfl))))) (by kernel_rfl)) (by kernel_rfl) ?_
 refine wG (On.put (.obj [rff n3 S, vi hand, .ptr q9 0, .ptr q15 0, .sc (.pointer none)]) hs18 5 rfl) ?_
 intro H19 hs20
 refine wK ?_
 refine wR [] [(0, yp c), (3, yp n5), (19, xi 2)] H19
   (cast trivial (by kernel_rfl)) (by kernel_rfl) ?_
 refine ⟨_, _, rfl, ?_⟩
 refine WpL.step ?_
 refine rS0 [(0, yp c), (3, yp n5), (19, xi 2), (20, xb true)] (by kernel_rfl) ?_
 refine wS (wTk ?_)
 refine wS (wB ?_)
 refine rS0 [(0, yp c), (3, yp n5), (4, xi 2), (19, xi 2)] (by kernel_rfl) ?_
 obtain ⟨_, H22, hr23, q21, rfl, hs24⟩ := copy_ok _ (H19 : HH) (On.call [3] [0, 1, 2, 4, 5, 6, 7, 8, 9] (by kernel_rfl) hs20) (q := q2) (room := 64) (l := l2)
 have hs24 : On [R, pts c (.obj [rff ks S, vi hand, .ptr q0 0, .ptr q1 0, .ptr q2 0]), pts ks (rowO NI true 0 S), pts n3 (rowO NI true 0 S), pts n5 (.obj [rff n3 S, vi hand, .ptr q9 0, .ptr q15 0, .sc (.pointer none)]), ringP EN q0 64 l0, ringP EN q9 64 l0, ringP EN q1 64 l1, ringP EN q15 64 l1, ringP EN q2 64 l2, ringP EN q21 64 l2] H22 := On.flat hs24
 refine rKq [(8, yp q2, H19), (9, yp q21, H22), (14, .tup [], (sto H22 n5 (.obj [rff n3 S, vi hand, .ptr q9 0, .ptr q15 0, .ptr q21 0])))] [(0, yp c), (3, yp n5), (19, xi 2)] (sto H22 n5 (.obj [rff n3 S, vi hand, .ptr q9 0, .ptr q15 0, .ptr q21 0]))
   (cast (Jai (Ja (t := 50) (off := 4) (v := .one (.ptr q2 0)) (On.at hs20 1 rfl) (by kernel_rfl)) (Jai (Jb hr23 (by kernel_rfl)) (JZ (Jc (t := 52) (off := 4) (v := .agg [.ptr q21 0]) (On.at hs24 4 rfl) (by kernel_rfl))))) (by kernel_rfl)) (by kernel_rfl) ?_
 refine wG (On.put (.obj [rff n3 S, vi hand, .ptr q9 0, .ptr q15 0, .ptr q21 0]) hs24 4 rfl) ?_
 intro H25 hs26
 refine wK ?_
 refine wR [] [(0, yp c), (3, yp n5), (19, xi 3)] H25
   (cast trivial (by kernel_rfl)) (by kernel_rfl) ?_
 refine ⟨_, _, rfl, ?_⟩
 refine WpL.step ?_
 refine rS0 [(0, yp c), (3, yp n5), (19, xi 3), (20, xb false)] (by kernel_rfl) ?_
 refine wS ?_
 refine wFa ?_
 refine wX ?_
 refine Eq.mpr (if_pos rfl) ?_
 refine rS0 [(2, yp n5)] (by kernel_rfl) ?_
 refine wE ?_
 refine ⟨Or.inr rfl, [.one (.ptr n5 0)], (by kernel_rfl), ?_⟩
 exact ⟨n5, rfl, (On.pick [0, 1, 2, 5, 7, 9] [3, 4, 6, 8, 10] (by kernel_rfl) hs26)⟩
theorem queue_0 (R : HP) (H : HH) (c ks q0 q1 q2 : Nat) (S : List Int) (hand : Int) (l0 l1 l2 : List EN.T) (hs : On [R, pts c (.obj [rff ks S, vi hand, .ptr q0 0, .ptr q1 0, .ptr q2 0]), pts ks (rowO NI true 0 S), ringP EN q0 64 l0, ringP EN q1 64 l1, ringP EN q2 64 l2] H) (hS : 3 ≤ (S.length : Int)) (hT : (S.length : Int) ≤ 64) (b0 : (l0.length : Int) ≤ 64) (b1 : (l1.length : Int) ≤ 64) (b2 : (l2.length : Int) ≤ 64) : ∃ rs H', Runs pg an 19 [.one (.ptr c 0), .one (vi 0)] H rs H' ∧ ∃ k', rs = [.one (rft k' l0)] ∧ On [R, pts c (.obj [rff ks S, vi hand, .ptr q0 0, .ptr q1 0, .ptr q2 0]), pts ks (rowO NI true 0 S), ringP EN q0 64 l0, ringP EN q1 64 l1, ringP EN q2 64 l2, pts k' (rowO EN true 0 l0)] H' := by
 refine Runs.of (fn := Try.f19) Try.func19 rfl (by kernel_rfl) [(0, yp c), (1, xi 0)] (by kernel_rfl) ?_
 refine rS0 [(0, yp c), (1, xi 0)] (by kernel_rfl) ?_
 refine wS ?_
 have hcall1 : Runs pg an 33 [.one (.ptr c 0)] H [.one (vb true)] H := by
  refine runs_of ?_
  refine Runs.of (fn := Try.f33) Try.func33 rfl (by kernel_rfl) [(0, yp c)] (by kernel_rfl) ?_
  refine rS0 [(0, yp c)] (by kernel_rfl) ?_
  refine rSq [(6, .y (.one (rff ks S)), H), (7, xi (S.length : Int), H), (8, xb true, H)] [(2, xb true)] H
    (cast (Jai (Ja (t := 36) (off := 0) (v := .one (rff ks S)) (On.at hs 1 rfl) (by kernel_rfl)) (Jai (Jm (H := H) (s := NI) (t := 36) (ty := 0) (pu := true) (capd := false) (id := ks) (d := 0) (o := 0) (n := S.length) (l := S) (e := (S.length : Int)) (On.at hs 2 rfl) (by kernel_rfl) (by first | rfl | omega | simp <;> omega)) (JZ (Jd (H := H) (t := 3) (u := 3) (a := (S.length : Int)) (b := 0) (by omega))))) (by kernel_rfl)) (by kernel_rfl) ?_
  refine wE ?_
  exact ⟨Or.inr rfl, [.one (vb true)], (by kernel_rfl), ⟨rfl, rfl⟩⟩
 have hcall2 : Runs pg an 34 [.one (vi 0)] H [.one (vb true)] H := by
  refine runs_of ?_
  refine Runs.of (fn := Try.f34) Try.func34 rfl (by kernel_rfl) [(0, xi 0)] (by kernel_rfl) ?_
  refine rS0 [(0, xi 0)] (by kernel_rfl) ?_
  refine rS0 [(2, xb true)] (by kernel_rfl) ?_
  refine wE ?_
  exact ⟨Or.inr rfl, [.one (vb true)], (by kernel_rfl), ⟨rfl, rfl⟩⟩
 refine rSq [(1, xb true, H), (5, xb true, H)] [(0, yp c), (1, xi 0), (12, xb false)] H
   (cast (Jai (Jb hcall1 (by kernel_rfl)) (JZ (Jb hcall2 (by kernel_rfl)))) (by kernel_rfl)) (by kernel_rfl) ?_
 refine wFk ?_
 obtain ⟨_, H4, hr5, k3, rfl, hs6⟩ := items_ok _ (H : HH) (On.call [3] [0, 1, 2, 4, 5] (by kernel_rfl) hs) (q := q0) (room := 64) (l := l0)
 have hs6 : On [R, pts c (.obj [rff ks S, vi hand, .ptr q0 0, .ptr q1 0, .ptr q2 0]), pts ks (rowO NI true 0 S), ringP EN q1 64 l1, ringP EN q2 64 l2, ringP EN q0 64 l0, pts k3 (rowO EN true 0 l0)] H4 := On.flat hs6
 refine rSq [(6, yp q0, H), (7, .y (.one (rft k3 l0)), H4)] [(4, .y (.one (rft k3 l0)))] H4
   (cast (Jai (Ja (t := 50) (off := 2) (v := .one (.ptr q0 0)) (On.at hs 1 rfl) (by kernel_rfl)) (JZ (Jb hr5 (by kernel_rfl)))) (by kernel_rfl)) (by kernel_rfl) ?_
 refine wG hs6 ?_
 intro H7 hs8
 refine wE ?_
 refine ⟨Or.inr rfl, [.one (rft k3 l0)], (by kernel_rfl), ?_⟩
 exact ⟨k3, rfl, (On.pick [0, 1, 2, 5, 3, 4, 6] [] (by kernel_rfl) hs8)⟩
theorem queue_1 (R : HP) (H : HH) (c ks q0 q1 q2 : Nat) (S : List Int) (hand : Int) (l0 l1 l2 : List EN.T) (hs : On [R, pts c (.obj [rff ks S, vi hand, .ptr q0 0, .ptr q1 0, .ptr q2 0]), pts ks (rowO NI true 0 S), ringP EN q0 64 l0, ringP EN q1 64 l1, ringP EN q2 64 l2] H) (hS : 3 ≤ (S.length : Int)) (hT : (S.length : Int) ≤ 64) (b0 : (l0.length : Int) ≤ 64) (b1 : (l1.length : Int) ≤ 64) (b2 : (l2.length : Int) ≤ 64) : ∃ rs H', Runs pg an 19 [.one (.ptr c 0), .one (vi 1)] H rs H' ∧ ∃ k', rs = [.one (rft k' l1)] ∧ On [R, pts c (.obj [rff ks S, vi hand, .ptr q0 0, .ptr q1 0, .ptr q2 0]), pts ks (rowO NI true 0 S), ringP EN q0 64 l0, ringP EN q1 64 l1, ringP EN q2 64 l2, pts k' (rowO EN true 0 l1)] H' := by
 refine Runs.of (fn := Try.f19) Try.func19 rfl (by kernel_rfl) [(0, yp c), (1, xi 1)] (by kernel_rfl) ?_
 refine rS0 [(0, yp c), (1, xi 1)] (by kernel_rfl) ?_
 refine wS ?_
 have hcall1 : Runs pg an 33 [.one (.ptr c 0)] H [.one (vb true)] H := by
  refine runs_of ?_
  refine Runs.of (fn := Try.f33) Try.func33 rfl (by kernel_rfl) [(0, yp c)] (by kernel_rfl) ?_
  refine rS0 [(0, yp c)] (by kernel_rfl) ?_
  refine rSq [(6, .y (.one (rff ks S)), H), (7, xi (S.length : Int), H), (8, xb true, H)] [(2, xb true)] H
    (cast (Jai (Ja (t := 36) (off := 0) (v := .one (rff ks S)) (On.at hs 1 rfl) (by kernel_rfl)) (Jai (Jm (H := H) (s := NI) (t := 36) (ty := 0) (pu := true) (capd := false) (id := ks) (d := 0) (o := 0) (n := S.length) (l := S) (e := (S.length : Int)) (On.at hs 2 rfl) (by kernel_rfl) (by first | rfl | omega | simp <;> omega)) (JZ (Jd (H := H) (t := 3) (u := 3) (a := (S.length : Int)) (b := 0) (by omega))))) (by kernel_rfl)) (by kernel_rfl) ?_
  refine wE ?_
  exact ⟨Or.inr rfl, [.one (vb true)], (by kernel_rfl), ⟨rfl, rfl⟩⟩
 have hcall2 : Runs pg an 34 [.one (vi 1)] H [.one (vb true)] H := by
  refine runs_of ?_
  refine Runs.of (fn := Try.f34) Try.func34 rfl (by kernel_rfl) [(0, xi 1)] (by kernel_rfl) ?_
  refine rS0 [(0, xi 1)] (by kernel_rfl) ?_
  refine rS0 [(2, xb true)] (by kernel_rfl) ?_
  refine wE ?_
  exact ⟨Or.inr rfl, [.one (vb true)], (by kernel_rfl), ⟨rfl, rfl⟩⟩
 refine rSq [(1, xb true, H), (5, xb true, H)] [(0, yp c), (1, xi 1), (12, xb false)] H
   (cast (Jai (Jb hcall1 (by kernel_rfl)) (JZ (Jb hcall2 (by kernel_rfl)))) (by kernel_rfl)) (by kernel_rfl) ?_
 refine wFk ?_
 obtain ⟨_, H4, hr5, k3, rfl, hs6⟩ := items_ok _ (H : HH) (On.call [4] [0, 1, 2, 3, 5] (by kernel_rfl) hs) (q := q1) (room := 64) (l := l1)
 have hs6 : On [R, pts c (.obj [rff ks S, vi hand, .ptr q0 0, .ptr q1 0, .ptr q2 0]), pts ks (rowO NI true 0 S), ringP EN q0 64 l0, ringP EN q2 64 l2, ringP EN q1 64 l1, pts k3 (rowO EN true 0 l1)] H4 := On.flat hs6
 refine rSq [(6, yp q1, H), (7, .y (.one (rft k3 l1)), H4)] [(4, .y (.one (rft k3 l1)))] H4
   (cast (Jai (Ja (t := 50) (off := 3) (v := .one (.ptr q1 0)) (On.at hs 1 rfl) (by kernel_rfl)) (JZ (Jb hr5 (by kernel_rfl)))) (by kernel_rfl)) (by kernel_rfl) ?_
 refine wG hs6 ?_
 intro H7 hs8
 refine wE ?_
 refine ⟨Or.inr rfl, [.one (rft k3 l1)], (by kernel_rfl), ?_⟩
 exact ⟨k3, rfl, (On.pick [0, 1, 2, 3, 5, 4, 6] [] (by kernel_rfl) hs8)⟩
theorem queue_2 (R : HP) (H : HH) (c ks q0 q1 q2 : Nat) (S : List Int) (hand : Int) (l0 l1 l2 : List EN.T) (hs : On [R, pts c (.obj [rff ks S, vi hand, .ptr q0 0, .ptr q1 0, .ptr q2 0]), pts ks (rowO NI true 0 S), ringP EN q0 64 l0, ringP EN q1 64 l1, ringP EN q2 64 l2] H) (hS : 3 ≤ (S.length : Int)) (hT : (S.length : Int) ≤ 64) (b0 : (l0.length : Int) ≤ 64) (b1 : (l1.length : Int) ≤ 64) (b2 : (l2.length : Int) ≤ 64) : ∃ rs H', Runs pg an 19 [.one (.ptr c 0), .one (vi 2)] H rs H' ∧ ∃ k', rs = [.one (rft k' l2)] ∧ On [R, pts c (.obj [rff ks S, vi hand, .ptr q0 0, .ptr q1 0, .ptr q2 0]), pts ks (rowO NI true 0 S), ringP EN q0 64 l0, ringP EN q1 64 l1, ringP EN q2 64 l2, pts k' (rowO EN true 0 l2)] H' := by
 refine Runs.of (fn := Try.f19) Try.func19 rfl (by kernel_rfl) [(0, yp c), (1, xi 2)] (by kernel_rfl) ?_
 refine rS0 [(0, yp c), (1, xi 2)] (by kernel_rfl) ?_
 refine wS ?_
 have hcall1 : Runs pg an 33 [.one (.ptr c 0)] H [.one (vb true)] H := by
  refine runs_of ?_
  refine Runs.of (fn := Try.f33) Try.func33 rfl (by kernel_rfl) [(0, yp c)] (by kernel_rfl) ?_
  refine rS0 [(0, yp c)] (by kernel_rfl) ?_
  refine rSq [(6, .y (.one (rff ks S)), H), (7, xi (S.length : Int), H), (8, xb true, H)] [(2, xb true)] H
    (cast (Jai (Ja (t := 36) (off := 0) (v := .one (rff ks S)) (On.at hs 1 rfl) (by kernel_rfl)) (Jai (Jm (H := H) (s := NI) (t := 36) (ty := 0) (pu := true) (capd := false) (id := ks) (d := 0) (o := 0) (n := S.length) (l := S) (e := (S.length : Int)) (On.at hs 2 rfl) (by kernel_rfl) (by first | rfl | omega | simp <;> omega)) (JZ (Jd (H := H) (t := 3) (u := 3) (a := (S.length : Int)) (b := 0) (by omega))))) (by kernel_rfl)) (by kernel_rfl) ?_
  refine wE ?_
  exact ⟨Or.inr rfl, [.one (vb true)], (by kernel_rfl), ⟨rfl, rfl⟩⟩
 have hcall2 : Runs pg an 34 [.one (vi 2)] H [.one (vb true)] H := by
  refine runs_of ?_
  refine Runs.of (fn := Try.f34) Try.func34 rfl (by kernel_rfl) [(0, xi 2)] (by kernel_rfl) ?_
  refine rS0 [(0, xi 2)] (by kernel_rfl) ?_
  refine rS0 [(2, xb true)] (by kernel_rfl) ?_
  refine wE ?_
  exact ⟨Or.inr rfl, [.one (vb true)], (by kernel_rfl), ⟨rfl, rfl⟩⟩
 refine rSq [(1, xb true, H), (5, xb true, H)] [(0, yp c), (1, xi 2), (12, xb false)] H
   (cast (Jai (Jb hcall1 (by kernel_rfl)) (JZ (Jb hcall2 (by kernel_rfl)))) (by kernel_rfl)) (by kernel_rfl) ?_
 refine wFk ?_
 obtain ⟨_, H4, hr5, k3, rfl, hs6⟩ := items_ok _ (H : HH) (On.call [5] [0, 1, 2, 3, 4] (by kernel_rfl) hs) (q := q2) (room := 64) (l := l2)
 have hs6 : On [R, pts c (.obj [rff ks S, vi hand, .ptr q0 0, .ptr q1 0, .ptr q2 0]), pts ks (rowO NI true 0 S), ringP EN q0 64 l0, ringP EN q1 64 l1, ringP EN q2 64 l2, pts k3 (rowO EN true 0 l2)] H4 := On.flat hs6
 refine rSq [(6, yp q2, H), (7, .y (.one (rft k3 l2)), H4)] [(4, .y (.one (rft k3 l2)))] H4
   (cast (Jai (Ja (t := 50) (off := 4) (v := .one (.ptr q2 0)) (On.at hs 1 rfl) (by kernel_rfl)) (JZ (Jb hr5 (by kernel_rfl)))) (by kernel_rfl)) (by kernel_rfl) ?_
 refine wG hs6 ?_
 intro H7 hs8
 refine wE ?_
 refine ⟨Or.inr rfl, [.one (rft k3 l2)], (by kernel_rfl), ?_⟩
 exact ⟨k3, rfl, (On.pick [0, 1, 2, 3, 4, 5, 6] [] (by kernel_rfl) hs8)⟩
end Go.Proofs.Ytoidoeappihplaa
