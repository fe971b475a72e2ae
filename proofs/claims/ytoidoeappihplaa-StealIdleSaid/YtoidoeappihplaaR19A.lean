/-
  Steal: half, prefix, plan: what the text and the document come to. (Printed by sx/r19.py.)
-/
import Derived.Test.YtoidoeappihplaaX19
import Derived.Test.YtoidoeappihplaaProg
import Derived.KernelRfl
namespace Go.Proofs.Ytoidoeappihplaa
open Go.Lg
set_option linter.unusedVariables false
set_option maxRecDepth 100000
set_option linter.unusedSimpArgs false
abbrev EN : Sh := (.pr (.pr (.int .i64) (.pr (.int .i64) .nil)) (.pr .bool .nil))
def liveT : List (Nat × List (Nat × List Nat)) := [(3, [(0, [2, 3]), (1, [2, 3, 5]), (2, [2, 3, 5, 13]), (3, [2, 3, 5]), (4, [2, 3, 5, 35]), (5, [4]), (6, [2, 3, 6, 7, 8]), (7, [6, 7, 8, 9, 10, 11]), (8, [4])]),
  (4, [(0, [2, 3]), (1, [2, 3, 6, 7]), (2, [2, 3, 6, 7, 8]), (3, [2, 3, 6, 7, 8, 20]), (4, [2, 3, 6, 7, 8]), (5, [2, 3, 6, 7, 8, 26]), (6, [4]), (7, [2, 3, 6, 7, 9]), (8, [2, 3, 6, 7, 9, 10]), (9, [2, 3, 6, 7, 9, 10, 37]), (10, [2, 3, 6, 7, 9, 10]), (11, [2, 3, 6, 7, 9, 10, 11]), (12, [2, 3, 6, 7, 9, 10]), (13, [4])]),
  (7, [(0, [0]), (1, [3]), (2, [2])]),
  (8, [(0, [0]), (1, [2])]),
  (9, [(0, [0]), (1, [0, 3]), (2, [0, 3, 7]), (3, [0, 3]), (4, [0, 3, 23]), (5, [2]), (6, [2])]),
  (10, [(0, [0]), (1, [0, 3]), (2, [0, 3, 7]), (3, [0, 3]), (4, [0, 3, 23]), (5, [2]), (6, [2])]),
  (11, [(0, [2, 3]), (1, [2, 3, 11, 12]), (2, [2, 3, 11, 12, 13]), (3, [2, 3, 8, 11, 12]), (4, [2, 3, 11, 12, 16]), (5, [4, 5, 6]), (6, [2, 3, 11, 12]), (7, [2, 3, 18]), (8, [2, 3, 18, 19]), (9, [2, 3, 9, 18]), (10, [2, 3, 9, 10, 18]), (11, [2, 3, 9, 10, 18, 30]), (12, [4, 5, 6]), (13, [2, 3, 18]), (14, [4, 5, 6])]),
  (12, [(0, [2, 3]), (1, [2, 3, 7]), (2, [2, 3, 7, 11]), (3, [2, 3, 7]), (4, [2, 3, 7, 17]), (5, [4, 5, 6]), (6, [2, 3, 8]), (7, [2, 3, 8, 19]), (8, [2, 3, 8]), (9, [2, 3, 8, 9]), (10, [2, 3, 8, 9, 30]), (11, [2, 3, 8, 9]), (12, [2, 3, 8, 9, 35]), (13, [4, 5, 6]), (14, [4, 5, 6])]),
  (13, [(0, []), (1, [1]), (2, [1, 2, 3, 4]), (3, [0])]),
  (21, [(0, [0]), (1, [0, 3]), (2, [0, 3, 4]), (3, [0, 3, 4, 17]), (4, [0, 3, 4]), (5, [0, 3, 4]), (6, [2])]),
  (22, [(0, [0]), (1, [0, 3]), (2, [0, 3, 4]), (3, [0, 3, 4, 8]), (4, [0, 3, 4]), (5, [0, 3, 4]), (6, [0, 3, 4, 17]), (7, [0, 3, 4]), (8, [2])])]
def loopT : List (Nat × List (Nat × (List Nat × Bool))) := [(3, [(2, ([2, 3, 5], true))]),
  (4, [(3, ([2, 3, 6, 7, 8], true)), (9, ([2, 3, 6, 7, 9, 10], true))]),
  (9, [(2, ([0, 3], true))]),
  (10, [(2, ([0, 3], true))]),
  (11, [(2, ([2, 3, 11, 12], true)), (8, ([2, 3, 18], true))]),
  (12, [(2, ([2, 3, 7], true)), (7, ([2, 3, 8], true))]),
  (21, [(3, ([0, 3, 4], true))]),
  (22, [(3, ([0, 3, 4], true))])]

def tab {α : Type} (T : List (Nat × List (Nat × α))) (f r : Nat) : Option α := (T.lookup f).bind (List.lookup r)
abbrev an : Ann := { pureSl := fun _ => true, pureFn := fun f => [7, 8, 9, 10, 11, 12, 13, 21, 22].contains f, live := tab liveT, loop := tab loopT, may := fun f => [3, 4, 7, 8, 9, 10, 11, 12, 13, 21, 22].contains f }
noncomputable abbrev pg : Program := Try.prog

/-- how many stand behind the last pinned one: from the front of a list turned round -/
def tail : List EN.T → Nat
  | [] => 0
  | x :: l => if x.2.1 then 0 else tail l + 1
def free (l : List EN.T) : Nat := tail l.reverse
theorem free_snoc (l : List EN.T) (x : EN.T) : free (l ++ [x]) = if x.2.1 then 0 else free l + 1 := by simp [free, tail]
theorem free_take {l : List EN.T} {i : Int} {x : EN.T} (h : 0 ≤ i) (hx : l[i.toNat]? = some x) : free (l.take (i + 1).toNat) = if x.2.1 then 0 else free (l.take i.toNat) + 1 := by
  rw [show (i + 1).toNat = i.toNat + 1 by omega, ← free_snoc, List.take_add_one, hx]; rfl
theorem free_le (l : List EN.T) : free l ≤ l.length := by
  unfold free
  rw [← List.length_reverse]
  generalize l.reverse = r
  induction r with
  | nil => simp [tail]
  | cons x r ih => simp only [tail, List.length_cons]; split <;> omega
theorem free_last {l : List EN.T} {x : EN.T} (hx : l[((l.length : Int) - 1).toNat]? = some x) : if x.2.1 then free l = 0 else 1 ≤ free l := by
  have hl : 0 < l.length := by
    cases l with
    | nil => simp at hx
    | cons _ _ => simp
  have := free_take (l := l) (i := (l.length : Int) - 1) (by omega) hx
  rw [show ((l.length : Int) - 1 + 1).toNat = l.length by omega, List.take_length] at this
  rw [this]
  split <;> omega
def half (l : List EN.T) : Int := (free l : Int) / 2 + (free l : Int) % 2
theorem half_is (l : List EN.T) : 2 * half l ≤ (free l : Int) + 1 ∧ (free l : Int) ≤ 2 * half l ∧ (free l : Int) ≤ (l.length : Int) ∧ 0 ≤ (free l : Int) := by
  have := free_le l
  unfold half
  omega
/-- pinned ones ahead -/
def ahead : List EN.T → Bool
  | x :: y :: r => if y.2.1 && !x.2.1 then false else ahead (y :: r)
  | _ => true
theorem ahead_drop {l : List EN.T} {i : Int} {x y : EN.T} (h : 1 ≤ i) (hx : l[(i - 1).toNat]? = some x) (hy : l[i.toNat]? = some y) : ahead (l.drop (i - 1).toNat) = if y.2.1 && !x.2.1 then false else ahead (l.drop i.toNat) := by
  have e1 : l.drop (i - 1).toNat = x :: l.drop i.toNat := by
    rw [List.drop_eq_getElem?_toList_append, hx, show (i - 1).toNat + 1 = i.toNat by omega]; rfl
  have e2 : l.drop i.toNat = y :: l.drop (i.toNat + 1) := by
    rw [List.drop_eq_getElem?_toList_append, hy]; rfl
  rw [e1, e2]
  rfl
theorem ahead_end {l : List EN.T} {i : Int} (h : 1 ≤ i) (hl : (l.length : Int) ≤ i) : ahead (l.drop (i - 1).toNat) = true := by
  rcases hd : l.drop (i - 1).toNat with _ | ⟨x, _ | ⟨y, r⟩⟩
  · rfl
  · rfl
  · have := congrArg List.length hd
    simp at this
    omega
def pick (k h r : Int) (rest : Int × Int × Int) : Int × Int × Int := if r < h then (if 0 < r then (k, r, 0) else rest) else (if 0 < h then (k, h, 0) else rest)
def plan (h0 h1 h2 r0 r1 r2 : Int) : Int × Int × Int :=
  if r0 < 0 then (0, 0, 1) else if r1 < 0 then (0, 0, 1) else if r2 < 0 then (0, 0, 1) else pick 0 h0 r0 (pick 1 h1 r1 (pick 2 h2 r2 (0, 0, 3)))
theorem fn13 : PureC pg an 13 [] [.one (vb true)] := pure_of 200 (by kernel_rfl)

theorem fn21 (b nil capd : Bool) (l : List EN.T) (hl : (l.length : Int) ≤ 4611686018427387904) : PureC pg an 21 [.one (sv EN b nil capd l)] [.one (vi (free l))] := by
  refine Runs.of (fn := Try.f21) Try.func21 rfl (by kernel_rfl) [(0, .y (.one (sv EN b nil capd l)))] (by kernel_rfl) ?_
  refine Wp.regionSeq [] [(0, .y (.one (sv EN b nil capd l)))] []
    (cast trivial (by kernel_rfl)) (by kernel_rfl) ?_
  refine Wp.regionSeq [] [(0, .y (.one (sv EN b nil capd l))), (3, xi 0)] []
    (cast trivial (by kernel_rfl)) (by kernel_rfl) ?_
  refine Wp.seq ?_
  refine Wp.regionSeq [(2, xi ((l.length : Int) - 1), [])] [(0, .y (.one (sv EN b nil capd l))), (3, xi 0), (4, xi ((l.length : Int) - 1))] []
    (cast (And.intro (ob_raw (P := pg) (A := an) (vals := [xi ((l.length : Int)), xi 1]) (H := []) (op := .binOp .sub 3 (.tmp 0) (.tmp 1) 3) (ty := 0) (r := xi (IntKind.wrap .i64 (((l.length : Int)) - 1))) (v := xi ((l.length : Int) - 1)) (by kernel_rfl) (congrArg (fun z => xi z) ((wrap64 (by omega)).trans (by omega)))) trivial) (by kernel_rfl)) (by kernel_rfl) ?_
  refine Wp.block ?_
  refine Wp.loop (T := Int × Int) (fun (t : Int × Int) => match t with | (n, i) => ((i + 1).toNat : Nat)) (fun (t : Int × Int) => match t with | (n, i) => ([(0, .y (.one (sv EN b nil capd l))), (3, xi n), (4, xi i)] : Env)) (fun (t : Int × Int) => match t with | (n, i) => ([] : Go.Lg.Heap))
    (fun (t : Int × Int) => match t with | (n, i) => (-1 ≤ i ∧ i < (l.length : Int) ∧ 0 ≤ n ∧ n + i + 1 = (l.length : Int) ∧ (free l : Int) = n + free (l.take (i + 1).toNat) : Prop)) (0, (l.length : Int) - 1) (by kernel_rfl) (by exact ⟨by omega, by omega, by omega, by omega, by rw [show ((l.length : Int) - 1 + 1).toNat = l.length by omega, List.take_length]; omega⟩) ?_
  rintro ⟨n, i⟩ ⟨h1, h2, h3, h4, h5⟩
  show Wp _ _ _ _ [(0, .y (.one (sv EN b nil capd l))), (3, xi n), (4, xi i)] [] _
  refine Wp.seq ?_
  by_cases c1 : (0 : Int) ≤ i
  ·
    obtain ⟨x2, hx2⟩ : ∃ x, l[(i : Int).toNat]? = some x := get_of (by omega)
    rcases Bool.eq_false_or_eq_true (x2.2.1) with c3 | c3
    ·
      refine Wp.regionSeq [(1, xb true, []), (5, .y (.one (.rd ([vi x2.1.1, vi x2.1.2.1, vb x2.2.1] ++ (l.drop ((i : Int).toNat + 1)).flatMap (enc EN)))), []), (7, xb true, [])] [(0, .y (.one (sv EN b nil capd l))), (3, xi n), (4, xi i), (17, xb false)] []
        (cast (And.intro (ob_raw (P := pg) (A := an) (vals := [xi i, xi 0]) (H := []) (op := .binOp .geq 3 (.tmp 0) (.tmp 1) 3) (ty := 0) (r := xb (decide ((i : Int) ≥ 0))) (v := xb true) (by kernel_rfl) (congrArg (fun z => xb z) (decide_eq_true (by omega)))) (And.intro (ob_index (P := pg) (A := an) (H := []) (s := EN) (b := b) (nil := nil) (capd := capd) (t := 22) (el := 35) (i := i) Try.underlying22 (by kernel_rfl) (by kernel_rfl) (by omega) hx2) (And.intro (ob_raw (P := pg) (A := an) (vals := [.y (.one (.rd ([vb x2.2.1] ++ (l.drop ((i : Int).toNat + 1)).flatMap (enc EN))))]) (H := []) (op := .load 4 (.tmp 0)) (ty := 0) (r := xb x2.2.1) (v := xb true) (by kernel_rfl) (congrArg (fun z => xb z) (c3))) trivial))) (by kernel_rfl)) (by kernel_rfl) ?_
      refine Wp.condF (by kernel_rfl) ?_
      refine Wp.exit ?_
      refine Eq.mpr (if_pos rfl) ?_
      refine Wp.regionSeq [] [(2, xi n)] []
        (cast trivial (by kernel_rfl)) (by kernel_rfl) ?_
      refine Wp.ret ?_
      exact ⟨Or.inr rfl, [.one (vi n)], by kernel_rfl, (congrArg (fun z => some [Y.one (vi z)]) (show n = (free l : Int) from by have := free_take (i := i) (by omega) hx2; rw [if_pos (by simp [c3])] at this; omega))⟩
    ·
      refine Wp.regionSeq [(1, xb true, []), (5, .y (.one (.rd ([vi x2.1.1, vi x2.1.2.1, vb x2.2.1] ++ (l.drop ((i : Int).toNat + 1)).flatMap (enc EN)))), []), (7, xb false, [])] [(0, .y (.one (sv EN b nil capd l))), (3, xi n), (4, xi i), (17, xb true)] []
        (cast (And.intro (ob_raw (P := pg) (A := an) (vals := [xi i, xi 0]) (H := []) (op := .binOp .geq 3 (.tmp 0) (.tmp 1) 3) (ty := 0) (r := xb (decide ((i : Int) ≥ 0))) (v := xb true) (by kernel_rfl) (congrArg (fun z => xb z) (decide_eq_true (by omega)))) (And.intro (ob_index (P := pg) (A := an) (H := []) (s := EN) (b := b) (nil := nil) (capd := capd) (t := 22) (el := 35) (i := i) Try.underlying22 (by kernel_rfl) (by kernel_rfl) (by omega) hx2) (And.intro (ob_raw (P := pg) (A := an) (vals := [.y (.one (.rd ([vb x2.2.1] ++ (l.drop ((i : Int).toNat + 1)).flatMap (enc EN))))]) (H := []) (op := .load 4 (.tmp 0)) (ty := 0) (r := xb x2.2.1) (v := xb false) (by kernel_rfl) (congrArg (fun z => xb z) (c3))) trivial))) (by kernel_rfl)) (by kernel_rfl) ?_
      refine Wp.condT (by kernel_rfl) ?_
      refine Wp.skip ?_
      refine Wp.seq ?_
      refine Wp.block ?_
      refine Wp.region [(1, xi (n + 1), [])] [(0, .y (.one (sv EN b nil capd l))), (3, xi (n + 1)), (4, xi i)] []
        (cast (And.intro (ob_raw (P := pg) (A := an) (vals := [xi n, xi 1]) (H := []) (op := .binOp .add 3 (.tmp 0) (.tmp 1) 3) (ty := 0) (r := xi (IntKind.wrap .i64 (n + 1))) (v := xi (n + 1)) (by kernel_rfl) (congrArg (fun z => xi z) ((wrap64 (by omega)).trans (by omega)))) trivial) (by kernel_rfl)) (by kernel_rfl) ?_
      refine Wp.region [(1, xi (i - 1), [])] [(0, .y (.one (sv EN b nil capd l))), (3, xi (n + 1)), (4, xi (i - 1))] []
        (cast (And.intro (ob_raw (P := pg) (A := an) (vals := [xi i, xi 1]) (H := []) (op := .binOp .sub 3 (.tmp 0) (.tmp 1) 3) (ty := 0) (r := xi (IntKind.wrap .i64 (i - 1))) (v := xi (i - 1)) (by kernel_rfl) (congrArg (fun z => xi z) ((wrap64 (by omega)).trans (by omega)))) trivial) (by kernel_rfl)) (by kernel_rfl) ?_
      exact ⟨((n + 1), (i - 1)), by kernel_rfl, (by exact ⟨by omega, by omega, by omega, by omega, by have := free_take (i := i) (by omega) hx2; rw [if_neg (by simp [c3])] at this; rw [show i - 1 + 1 = i by omega]; omega⟩), (by show (_ : Nat) < _; simp only []; omega)⟩
  ·
    refine Wp.regionSeq [(1, xb false, [])] [(0, .y (.one (sv EN b nil capd l))), (3, xi n), (4, xi i), (17, xb false)] []
      (cast (And.intro (ob_raw (P := pg) (A := an) (vals := [xi i, xi 0]) (H := []) (op := .binOp .geq 3 (.tmp 0) (.tmp 1) 3) (ty := 0) (r := xb (decide ((i : Int) ≥ 0))) (v := xb false) (by kernel_rfl) (congrArg (fun z => xb z) (decide_eq_false (by omega)))) trivial) (by kernel_rfl)) (by kernel_rfl) ?_
    refine Wp.condF (by kernel_rfl) ?_
    refine Wp.exit ?_
    refine Eq.mpr (if_pos rfl) ?_
    refine Wp.regionSeq [] [(2, xi n)] []
      (cast trivial (by kernel_rfl)) (by kernel_rfl) ?_
    refine Wp.ret ?_
    exact ⟨Or.inr rfl, [.one (vi n)], by kernel_rfl, (congrArg (fun z => some [Y.one (vi z)]) (show n = (free l : Int) from by rw [show (i + 1).toNat = 0 by omega] at h5; simp [free, tail] at h5; simp [free]; omega))⟩
theorem fn22 (b nil capd : Bool) (l : List EN.T) (hl : (l.length : Int) ≤ 4611686018427387904) : PureC pg an 22 [.one (sv EN b nil capd l)] [.one (vi (free l))] := by
  refine Runs.of (fn := Try.f22) Try.func22 rfl (by kernel_rfl) [(0, .y (.one (sv EN b nil capd l)))] (by kernel_rfl) ?_
  refine Wp.regionSeq [] [(0, .y (.one (sv EN b nil capd l)))] []
    (cast trivial (by kernel_rfl)) (by kernel_rfl) ?_
  refine Wp.regionSeq [] [(0, .y (.one (sv EN b nil capd l))), (3, xi 0)] []
    (cast trivial (by kernel_rfl)) (by kernel_rfl) ?_
  refine Wp.seq ?_
  refine Wp.regionSeq [] [(0, .y (.one (sv EN b nil capd l))), (3, xi 0), (4, xi 0)] []
    (cast trivial (by kernel_rfl)) (by kernel_rfl) ?_
  refine Wp.block ?_
  refine Wp.loop (T := Int × Int) (fun (t : Int × Int) => match t with | (n, i) => (((l.length : Int) - i).toNat : Nat)) (fun (t : Int × Int) => match t with | (n, i) => ([(0, .y (.one (sv EN b nil capd l))), (3, xi n), (4, xi i)] : Env)) (fun (t : Int × Int) => match t with | (n, i) => ([] : Go.Lg.Heap))
    (fun (t : Int × Int) => match t with | (n, i) => (0 ≤ i ∧ i ≤ (l.length : Int) ∧ 0 ≤ n ∧ n ≤ i ∧ n = free (l.take i.toNat) : Prop)) (0, 0) (by kernel_rfl) (by exact ⟨by omega, by omega, by omega, by omega, by simp [free, tail]⟩) ?_
  rintro ⟨n, i⟩ ⟨h1, h2, h3, h4, h5⟩
  show Wp _ _ _ _ [(0, .y (.one (sv EN b nil capd l))), (3, xi n), (4, xi i)] [] _
  refine Wp.seq ?_
  by_cases c1 : (i : Int) < ((l.length : Int))
  ·
    refine Wp.regionSeq [(3, xb true, [])] [(0, .y (.one (sv EN b nil capd l))), (3, xi n), (4, xi i), (8, xb true)] []
      (cast (And.intro (ob_raw (P := pg) (A := an) (vals := [xi i, xi ((l.length : Int))]) (H := []) (op := .binOp .lss 3 (.tmp 0) (.tmp 1) 3) (ty := 0) (r := xb (decide ((i : Int) < ((l.length : Int))))) (v := xb true) (by kernel_rfl) (congrArg (fun z => xb z) (decide_eq_true (by omega)))) trivial) (by kernel_rfl)) (by kernel_rfl) ?_
    refine Wp.condT (by kernel_rfl) ?_
    refine Wp.skip ?_
    refine Wp.seq ?_
    refine Wp.block ?_
    refine Wp.regionSeq [(1, xi (n + 1), [])] [(0, .y (.one (sv EN b nil capd l))), (3, xi (n + 1)), (4, xi i)] []
      (cast (And.intro (ob_raw (P := pg) (A := an) (vals := [xi n, xi 1]) (H := []) (op := .binOp .add 3 (.tmp 0) (.tmp 1) 3) (ty := 0) (r := xi (IntKind.wrap .i64 (n + 1))) (v := xi (n + 1)) (by kernel_rfl) (congrArg (fun z => xi z) ((wrap64 (by omega)).trans (by omega)))) trivial) (by kernel_rfl)) (by kernel_rfl) ?_
    obtain ⟨x2, hx2⟩ : ∃ x, l[(i : Int).toNat]? = some x := get_of (by omega)
    rcases Bool.eq_false_or_eq_true (x2.2.1) with c3 | c3
    ·
      refine Wp.regionSeq [(2, .y (.one (.rd ([vi x2.1.1, vi x2.1.2.1, vb x2.2.1] ++ (l.drop ((i : Int).toNat + 1)).flatMap (enc EN)))), []), (4, xb true, [])] [(0, .y (.one (sv EN b nil capd l))), (3, xi (n + 1)), (4, xi i), (17, xb true)] []
        (cast (And.intro (ob_index (P := pg) (A := an) (H := []) (s := EN) (b := b) (nil := nil) (capd := capd) (t := 22) (el := 35) (i := i) Try.underlying22 (by kernel_rfl) (by kernel_rfl) (by omega) hx2) (And.intro (ob_raw (P := pg) (A := an) (vals := [.y (.one (.rd ([vb x2.2.1] ++ (l.drop ((i : Int).toNat + 1)).flatMap (enc EN))))]) (H := []) (op := .load 4 (.tmp 0)) (ty := 0) (r := xb x2.2.1) (v := xb true) (by kernel_rfl) (congrArg (fun z => xb z) (c3))) trivial)) (by kernel_rfl)) (by kernel_rfl) ?_
      refine Wp.condT (by kernel_rfl) ?_
      refine Wp.region [] [(0, .y (.one (sv EN b nil capd l))), (3, xi 0), (4, xi i)] []
        (cast trivial (by kernel_rfl)) (by kernel_rfl) ?_
      refine Wp.region [(1, xi (i + 1), [])] [(0, .y (.one (sv EN b nil capd l))), (3, xi 0), (4, xi (i + 1))] []
        (cast (And.intro (ob_raw (P := pg) (A := an) (vals := [xi i, xi 1]) (H := []) (op := .binOp .add 3 (.tmp 0) (.tmp 1) 3) (ty := 0) (r := xi (IntKind.wrap .i64 (i + 1))) (v := xi (i + 1)) (by kernel_rfl) (congrArg (fun z => xi z) ((wrap64 (by omega)).trans (by omega)))) trivial) (by kernel_rfl)) (by kernel_rfl) ?_
      exact ⟨(0, (i + 1)), by kernel_rfl, (by exact ⟨by omega, by omega, by omega, by omega, by have := free_take (i := i) (by omega) hx2; rw [this]; simp only [c3]; simp; try omega⟩), (by show (_ : Nat) < _; simp only []; omega)⟩
    ·
      refine Wp.regionSeq [(2, .y (.one (.rd ([vi x2.1.1, vi x2.1.2.1, vb x2.2.1] ++ (l.drop ((i : Int).toNat + 1)).flatMap (enc EN)))), []), (4, xb false, [])] [(0, .y (.one (sv EN b nil capd l))), (3, xi (n + 1)), (4, xi i), (17, xb false)] []
        (cast (And.intro (ob_index (P := pg) (A := an) (H := []) (s := EN) (b := b) (nil := nil) (capd := capd) (t := 22) (el := 35) (i := i) Try.underlying22 (by kernel_rfl) (by kernel_rfl) (by omega) hx2) (And.intro (ob_raw (P := pg) (A := an) (vals := [.y (.one (.rd ([vb x2.2.1] ++ (l.drop ((i : Int).toNat + 1)).flatMap (enc EN))))]) (H := []) (op := .load 4 (.tmp 0)) (ty := 0) (r := xb x2.2.1) (v := xb false) (by kernel_rfl) (congrArg (fun z => xb z) (c3))) trivial)) (by kernel_rfl)) (by kernel_rfl) ?_
      refine Wp.condF (by kernel_rfl) ?_
      refine Wp.skip ?_
      refine Wp.region [(1, xi (i + 1), [])] [(0, .y (.one (sv EN b nil capd l))), (3, xi (n + 1)), (4, xi (i + 1))] []
        (cast (And.intro (ob_raw (P := pg) (A := an) (vals := [xi i, xi 1]) (H := []) (op := .binOp .add 3 (.tmp 0) (.tmp 1) 3) (ty := 0) (r := xi (IntKind.wrap .i64 (i + 1))) (v := xi (i + 1)) (by kernel_rfl) (congrArg (fun z => xi z) ((wrap64 (by omega)).trans (by omega)))) trivial) (by kernel_rfl)) (by kernel_rfl) ?_
      exact ⟨((n + 1), (i + 1)), by kernel_rfl, (by exact ⟨by omega, by omega, by omega, by omega, by have := free_take (i := i) (by omega) hx2; rw [this]; simp only [c3]; simp; try omega⟩), (by show (_ : Nat) < _; simp only []; omega)⟩
  ·
    refine Wp.regionSeq [(3, xb false, [])] [(0, .y (.one (sv EN b nil capd l))), (3, xi n), (4, xi i), (8, xb false)] []
      (cast (And.intro (ob_raw (P := pg) (A := an) (vals := [xi i, xi ((l.length : Int))]) (H := []) (op := .binOp .lss 3 (.tmp 0) (.tmp 1) 3) (ty := 0) (r := xb (decide ((i : Int) < ((l.length : Int))))) (v := xb false) (by kernel_rfl) (congrArg (fun z => xb z) (decide_eq_false (by omega)))) trivial) (by kernel_rfl)) (by kernel_rfl) ?_
    refine Wp.condF (by kernel_rfl) ?_
    refine Wp.exit ?_
    refine Eq.mpr (if_pos rfl) ?_
    refine Wp.regionSeq [] [(2, xi n)] []
      (cast trivial (by kernel_rfl)) (by kernel_rfl) ?_
    refine Wp.ret ?_
    exact ⟨Or.inr rfl, [.one (vi n)], by kernel_rfl, (congrArg (fun z => some [Y.one (vi z)]) (show n = (free l : Int) from by rw [h5, show i.toNat = l.length by omega, List.take_length]))⟩
theorem fn7 (b nil capd : Bool) (l : List EN.T) (hl : (l.length : Int) ≤ 4611686018427387904) : PureC pg an 7 [.one (sv EN b nil capd l)] [.one (vi (half l))] := by
  refine Runs.of (fn := Try.f7) Try.func7 rfl (by kernel_rfl) [(0, .y (.one (sv EN b nil capd l)))] (by kernel_rfl) ?_
  refine Wp.regionSeq [] [(0, .y (.one (sv EN b nil capd l)))] []
    (cast trivial (by kernel_rfl)) (by kernel_rfl) ?_
  have hhz1 := half_is (l)
  refine Wp.regionSeq [(1, xi ((free l : Int)), [])] [(3, xi ((free l : Int)))] []
    (cast (And.intro (ob_pure (P := pg) (A := an) (H := []) (g := 21) (vals := [.y (.one (sv EN b nil capd l))]) (xs0 := [.one (sv EN b nil capd l)]) (xs1 := [.one (sv EN b nil capd l)]) (res := [.one (vi ((free l : Int)))]) (ats := #[]) (ty := 0) (v := xi ((free l : Int))) [.tmp 0] (by kernel_rfl) (by kernel_rfl) (by kernel_rfl) (fn21 _ _ _ l (by omega)) (by kernel_rfl)) trivial) (by kernel_rfl)) (by kernel_rfl) ?_
  refine Wp.regionSeq [(1, xi ((((free l : Int)) / 2)), []), (3, xi ((((free l : Int)) % 2)), []), (4, xi ((((free l : Int)) / 2) + (((free l : Int)) % 2)), [])] [(2, xi ((((free l : Int)) / 2) + (((free l : Int)) % 2)))] []
    (cast (And.intro (ob_raw (P := pg) (A := an) (vals := [xi ((free l : Int)), xi 2]) (H := []) (op := .binOp .quo 3 (.tmp 0) (.tmp 1) 3) (ty := 0) (r := xi (IntKind.wrap .i64 (Int.tdiv ((free l : Int)) 2))) (v := xi ((((free l : Int)) / 2))) (by kernel_rfl) (congrArg (fun z => xi z) ((congrArg (IntKind.wrap .i64) (Int.tdiv_eq_ediv_of_nonneg (by omega))).trans (wrap64 (by omega))))) (And.intro (ob_raw (P := pg) (A := an) (vals := [xi ((free l : Int)), xi 2]) (H := []) (op := .binOp .rem 3 (.tmp 0) (.tmp 1) 3) (ty := 0) (r := xi (Int.tmod ((free l : Int)) 2)) (v := xi ((((free l : Int)) % 2))) (by kernel_rfl) (congrArg (fun z => xi z) (Int.tmod_eq_emod_of_nonneg (by omega)))) (And.intro (ob_raw (P := pg) (A := an) (vals := [xi ((((free l : Int)) / 2)), xi ((((free l : Int)) % 2))]) (H := []) (op := .binOp .add 3 (.tmp 0) (.tmp 1) 3) (ty := 0) (r := xi (IntKind.wrap .i64 (((((free l : Int)) / 2)) + ((((free l : Int)) % 2))))) (v := xi ((((free l : Int)) / 2) + (((free l : Int)) % 2))) (by kernel_rfl) (congrArg (fun z => xi z) ((wrap64 (by omega)).trans (by omega)))) trivial))) (by kernel_rfl)) (by kernel_rfl) ?_
  refine Wp.ret ?_
  exact ⟨Or.inr rfl, [.one (vi ((((free l : Int)) / 2) + (((free l : Int)) % 2)))], by kernel_rfl, (congrArg (fun z => some [Y.one (vi z)]) (show ((((free l : Int)) / 2) + (((free l : Int)) % 2)) = half l from by unfold half; omega))⟩
theorem fn8 (b nil capd : Bool) (l : List EN.T) (hl : (l.length : Int) ≤ 4611686018427387904) : PureC pg an 8 [.one (sv EN b nil capd l)] [.one (vi (half l))] := by
  refine Runs.of (fn := Try.f8) Try.func8 rfl (by kernel_rfl) [(0, .y (.one (sv EN b nil capd l)))] (by kernel_rfl) ?_
  refine Wp.regionSeq [] [(0, .y (.one (sv EN b nil capd l)))] []
    (cast trivial (by kernel_rfl)) (by kernel_rfl) ?_
  have hhz1 := half_is (l)
  refine Wp.regionSeq [(1, xi ((free l : Int)), []), (2, xi ((((free l : Int)) / 2)), []), (4, xi ((free l : Int)), []), (5, xi ((((free l : Int)) % 2)), []), (6, xi ((((free l : Int)) / 2) + (((free l : Int)) % 2)), [])] [(2, xi ((((free l : Int)) / 2) + (((free l : Int)) % 2)))] []
    (cast (And.intro (ob_pure (P := pg) (A := an) (H := []) (g := 22) (vals := [.y (.one (sv EN b nil capd l))]) (xs0 := [.one (sv EN b nil capd l)]) (xs1 := [.one (sv EN b nil capd l)]) (res := [.one (vi ((free l : Int)))]) (ats := #[]) (ty := 0) (v := xi ((free l : Int))) [.tmp 0] (by kernel_rfl) (by kernel_rfl) (by kernel_rfl) (fn22 _ _ _ l (by omega)) (by kernel_rfl)) (And.intro (ob_raw (P := pg) (A := an) (vals := [xi ((free l : Int)), xi 2]) (H := []) (op := .binOp .quo 3 (.tmp 0) (.tmp 1) 3) (ty := 0) (r := xi (IntKind.wrap .i64 (Int.tdiv ((free l : Int)) 2))) (v := xi ((((free l : Int)) / 2))) (by kernel_rfl) (congrArg (fun z => xi z) ((congrArg (IntKind.wrap .i64) (Int.tdiv_eq_ediv_of_nonneg (by omega))).trans (wrap64 (by omega))))) (And.intro (ob_pure (P := pg) (A := an) (H := []) (g := 22) (vals := [.y (.one (sv EN b nil capd l))]) (xs0 := [.one (sv EN b nil capd l)]) (xs1 := [.one (sv EN b nil capd l)]) (res := [.one (vi ((free l : Int)))]) (ats := #[]) (ty := 0) (v := xi ((free l : Int))) [.tmp 0] (by kernel_rfl) (by kernel_rfl) (by kernel_rfl) (fn22 _ _ _ l (by omega)) (by kernel_rfl)) (And.intro (ob_raw (P := pg) (A := an) (vals := [xi ((free l : Int)), xi 2]) (H := []) (op := .binOp .rem 3 (.tmp 0) (.tmp 1) 3) (ty := 0) (r := xi (Int.tmod ((free l : Int)) 2)) (v := xi ((((free l : Int)) % 2))) (by kernel_rfl) (congrArg (fun z => xi z) (Int.tmod_eq_emod_of_nonneg (by omega)))) (And.intro (ob_raw (P := pg) (A := an) (vals := [xi ((((free l : Int)) / 2)), xi ((((free l : Int)) % 2))]) (H := []) (op := .binOp .add 3 (.tmp 0) (.tmp 1) 3) (ty := 0) (r := xi (IntKind.wrap .i64 (((((free l : Int)) / 2)) + ((((free l : Int)) % 2))))) (v := xi ((((free l : Int)) / 2) + (((free l : Int)) % 2))) (by kernel_rfl) (congrArg (fun z => xi z) ((wrap64 (by omega)).trans (by omega)))) trivial))))) (by kernel_rfl)) (by kernel_rfl) ?_
  refine Wp.ret ?_
  exact ⟨Or.inr rfl, [.one (vi ((((free l : Int)) / 2) + (((free l : Int)) % 2)))], by kernel_rfl, (congrArg (fun z => some [Y.one (vi z)]) (show ((((free l : Int)) / 2) + (((free l : Int)) % 2)) = half l from by unfold half; omega))⟩
theorem fn9 (b nil capd : Bool) (l : List EN.T) (hl : (l.length : Int) ≤ 4611686018427387904) : PureC pg an 9 [.one (sv EN b nil capd l)] [.one (vb (ahead l))] := by
  refine Runs.of (fn := Try.f9) Try.func9 rfl (by kernel_rfl) [(0, .y (.one (sv EN b nil capd l)))] (by kernel_rfl) ?_
  refine Wp.regionSeq [] [(0, .y (.one (sv EN b nil capd l)))] []
    (cast trivial (by kernel_rfl)) (by kernel_rfl) ?_
  refine Wp.seq ?_
  refine Wp.regionSeq [] [(0, .y (.one (sv EN b nil capd l))), (3, xi 1)] []
    (cast trivial (by kernel_rfl)) (by kernel_rfl) ?_
  refine Wp.block ?_
  refine Wp.loop (T := Int) (fun (t : Int) => let i := t; (((l.length : Int) - i).toNat : Nat)) (fun (t : Int) => let i := t; ([(0, .y (.one (sv EN b nil capd l))), (3, xi i)] : Env)) (fun (t : Int) => let i := t; ([] : Go.Lg.Heap))
    (fun (t : Int) => let i := t; (1 ≤ i ∧ ahead l = ahead (l.drop (i - 1).toNat) : Prop)) 1 (by kernel_rfl) (by exact ⟨by omega, by simp⟩) ?_
  rintro i ⟨h1, h3⟩
  show Wp _ _ _ _ [(0, .y (.one (sv EN b nil capd l))), (3, xi i)] [] _
  refine Wp.seq ?_
  by_cases c1 : (i : Int) < ((l.length : Int))
  ·
    refine Wp.regionSeq [(3, xb true, [])] [(0, .y (.one (sv EN b nil capd l))), (3, xi i), (7, xb true)] []
      (cast (And.intro (ob_raw (P := pg) (A := an) (vals := [xi i, xi ((l.length : Int))]) (H := []) (op := .binOp .lss 3 (.tmp 0) (.tmp 1) 3) (ty := 0) (r := xb (decide ((i : Int) < ((l.length : Int))))) (v := xb true) (by kernel_rfl) (congrArg (fun z => xb z) (decide_eq_true (by omega)))) trivial) (by kernel_rfl)) (by kernel_rfl) ?_
    refine Wp.condT (by kernel_rfl) ?_
    refine Wp.skip ?_
    refine Wp.seq ?_
    refine Wp.block ?_
    obtain ⟨x2, hx2⟩ : ∃ x, l[(i : Int).toNat]? = some x := get_of (by omega)
    rcases Bool.eq_false_or_eq_true (x2.2.1) with c3 | c3
    ·
      obtain ⟨x4, hx4⟩ : ∃ x, l[((i - 1) : Int).toNat]? = some x := get_of (by omega)
      rcases Bool.eq_false_or_eq_true (x4.2.1) with c5 | c5
      ·
        refine Wp.regionSeq [(2, .y (.one (.rd ([vi x2.1.1, vi x2.1.2.1, vb x2.2.1] ++ (l.drop ((i : Int).toNat + 1)).flatMap (enc EN)))), []), (4, xb true, []), (8, xi (i - 1), []), (9, .y (.one (.rd ([vi x4.1.1, vi x4.1.2.1, vb x4.2.1] ++ (l.drop (((i - 1) : Int).toNat + 1)).flatMap (enc EN)))), []), (11, xb true, [])] [(0, .y (.one (sv EN b nil capd l))), (3, xi i), (23, xb false)] []
          (cast (And.intro (ob_index (P := pg) (A := an) (H := []) (s := EN) (b := b) (nil := nil) (capd := capd) (t := 22) (el := 35) (i := i) Try.underlying22 (by kernel_rfl) (by kernel_rfl) (by omega) hx2) (And.intro (ob_raw (P := pg) (A := an) (vals := [.y (.one (.rd ([vb x2.2.1] ++ (l.drop ((i : Int).toNat + 1)).flatMap (enc EN))))]) (H := []) (op := .load 4 (.tmp 0)) (ty := 0) (r := xb x2.2.1) (v := xb true) (by kernel_rfl) (congrArg (fun z => xb z) (c3))) (And.intro (ob_raw (P := pg) (A := an) (vals := [xi i, xi 1]) (H := []) (op := .binOp .sub 3 (.tmp 0) (.tmp 1) 3) (ty := 0) (r := xi (IntKind.wrap .i64 (i - 1))) (v := xi (i - 1)) (by kernel_rfl) (congrArg (fun z => xi z) ((wrap64 (by omega)).trans (by omega)))) (And.intro (ob_index (P := pg) (A := an) (H := []) (s := EN) (b := b) (nil := nil) (capd := capd) (t := 22) (el := 35) (i := (i - 1)) Try.underlying22 (by kernel_rfl) (by kernel_rfl) (by omega) hx4) (And.intro (ob_raw (P := pg) (A := an) (vals := [.y (.one (.rd ([vb x4.2.1] ++ (l.drop (((i - 1) : Int).toNat + 1)).flatMap (enc EN))))]) (H := []) (op := .load 4 (.tmp 0)) (ty := 0) (r := xb x4.2.1) (v := xb true) (by kernel_rfl) (congrArg (fun z => xb z) (c5))) trivial))))) (by kernel_rfl)) (by kernel_rfl) ?_
        refine Wp.condF (by kernel_rfl) ?_
        refine Wp.skip ?_
        refine Wp.region [(1, xi (i + 1), [])] [(0, .y (.one (sv EN b nil capd l))), (3, xi (i + 1))] []
          (cast (And.intro (ob_raw (P := pg) (A := an) (vals := [xi i, xi 1]) (H := []) (op := .binOp .add 3 (.tmp 0) (.tmp 1) 3) (ty := 0) (r := xi (IntKind.wrap .i64 (i + 1))) (v := xi (i + 1)) (by kernel_rfl) (congrArg (fun z => xi z) ((wrap64 (by omega)).trans (by omega)))) trivial) (by kernel_rfl)) (by kernel_rfl) ?_
        exact ⟨(i + 1), by kernel_rfl, (by exact ⟨by omega, by have := ahead_drop (i := i) (by omega) hx4 hx2; rw [show i + 1 - 1 = i by omega, h3, this]; simp [c5, c3]⟩), (by show (_ : Nat) < _; simp only []; omega)⟩
      ·
        refine Wp.regionSeq [(2, .y (.one (.rd ([vi x2.1.1, vi x2.1.2.1, vb x2.2.1] ++ (l.drop ((i : Int).toNat + 1)).flatMap (enc EN)))), []), (4, xb true, []), (8, xi (i - 1), []), (9, .y (.one (.rd ([vi x4.1.1, vi x4.1.2.1, vb x4.2.1] ++ (l.drop (((i - 1) : Int).toNat + 1)).flatMap (enc EN)))), []), (11, xb false, [])] [(0, .y (.one (sv EN b nil capd l))), (3, xi i), (23, xb true)] []
          (cast (And.intro (ob_index (P := pg) (A := an) (H := []) (s := EN) (b := b) (nil := nil) (capd := capd) (t := 22) (el := 35) (i := i) Try.underlying22 (by kernel_rfl) (by kernel_rfl) (by omega) hx2) (And.intro (ob_raw (P := pg) (A := an) (vals := [.y (.one (.rd ([vb x2.2.1] ++ (l.drop ((i : Int).toNat + 1)).flatMap (enc EN))))]) (H := []) (op := .load 4 (.tmp 0)) (ty := 0) (r := xb x2.2.1) (v := xb true) (by kernel_rfl) (congrArg (fun z => xb z) (c3))) (And.intro (ob_raw (P := pg) (A := an) (vals := [xi i, xi 1]) (H := []) (op := .binOp .sub 3 (.tmp 0) (.tmp 1) 3) (ty := 0) (r := xi (IntKind.wrap .i64 (i - 1))) (v := xi (i - 1)) (by kernel_rfl) (congrArg (fun z => xi z) ((wrap64 (by omega)).trans (by omega)))) (And.intro (ob_index (P := pg) (A := an) (H := []) (s := EN) (b := b) (nil := nil) (capd := capd) (t := 22) (el := 35) (i := (i - 1)) Try.underlying22 (by kernel_rfl) (by kernel_rfl) (by omega) hx4) (And.intro (ob_raw (P := pg) (A := an) (vals := [.y (.one (.rd ([vb x4.2.1] ++ (l.drop (((i - 1) : Int).toNat + 1)).flatMap (enc EN))))]) (H := []) (op := .load 4 (.tmp 0)) (ty := 0) (r := xb x4.2.1) (v := xb false) (by kernel_rfl) (congrArg (fun z => xb z) (c5))) trivial))))) (by kernel_rfl)) (by kernel_rfl) ?_
        refine Wp.condT (by kernel_rfl) ?_
        refine Wp.regionSeq [] [(2, xb false)] []
          (cast trivial (by kernel_rfl)) (by kernel_rfl) ?_
        refine Wp.ret ?_
        exact ⟨Or.inr rfl, [.one (vb false)], by kernel_rfl, (congrArg (fun z => some [Y.one (vb z)]) (show false = ahead l from by have := ahead_drop (i := i) (by omega) hx4 hx2; rw [h3, this]; simp [c5, c3]))⟩
    ·
      refine Wp.regionSeq [(2, .y (.one (.rd ([vi x2.1.1, vi x2.1.2.1, vb x2.2.1] ++ (l.drop ((i : Int).toNat + 1)).flatMap (enc EN)))), []), (4, xb false, [])] [(0, .y (.one (sv EN b nil capd l))), (3, xi i), (23, xb false)] []
        (cast (And.intro (ob_index (P := pg) (A := an) (H := []) (s := EN) (b := b) (nil := nil) (capd := capd) (t := 22) (el := 35) (i := i) Try.underlying22 (by kernel_rfl) (by kernel_rfl) (by omega) hx2) (And.intro (ob_raw (P := pg) (A := an) (vals := [.y (.one (.rd ([vb x2.2.1] ++ (l.drop ((i : Int).toNat + 1)).flatMap (enc EN))))]) (H := []) (op := .load 4 (.tmp 0)) (ty := 0) (r := xb x2.2.1) (v := xb false) (by kernel_rfl) (congrArg (fun z => xb z) (c3))) trivial)) (by kernel_rfl)) (by kernel_rfl) ?_
      refine Wp.condF (by kernel_rfl) ?_
      refine Wp.skip ?_
      refine Wp.region [(1, xi (i + 1), [])] [(0, .y (.one (sv EN b nil capd l))), (3, xi (i + 1))] []
        (cast (And.intro (ob_raw (P := pg) (A := an) (vals := [xi i, xi 1]) (H := []) (op := .binOp .add 3 (.tmp 0) (.tmp 1) 3) (ty := 0) (r := xi (IntKind.wrap .i64 (i + 1))) (v := xi (i + 1)) (by kernel_rfl) (congrArg (fun z => xi z) ((wrap64 (by omega)).trans (by omega)))) trivial) (by kernel_rfl)) (by kernel_rfl) ?_
      exact ⟨(i + 1), by kernel_rfl, (by exact ⟨by omega, by have hx := get_of (l := l) (i := (i - 1).toNat) (by omega); obtain ⟨x, hx⟩ := hx; have := ahead_drop (i := i) (by omega) hx hx2; rw [show i + 1 - 1 = i by omega, h3, this]; simp [c3]⟩), (by show (_ : Nat) < _; simp only []; omega)⟩
  ·
    refine Wp.regionSeq [(3, xb false, [])] [(0, .y (.one (sv EN b nil capd l))), (3, xi i), (7, xb false)] []
      (cast (And.intro (ob_raw (P := pg) (A := an) (vals := [xi i, xi ((l.length : Int))]) (H := []) (op := .binOp .lss 3 (.tmp 0) (.tmp 1) 3) (ty := 0) (r := xb (decide ((i : Int) < ((l.length : Int))))) (v := xb false) (by kernel_rfl) (congrArg (fun z => xb z) (decide_eq_false (by omega)))) trivial) (by kernel_rfl)) (by kernel_rfl) ?_
    refine Wp.condF (by kernel_rfl) ?_
    refine Wp.exit ?_
    refine Eq.mpr (if_pos rfl) ?_
    refine Wp.regionSeq [] [(2, xb true)] []
      (cast trivial (by kernel_rfl)) (by kernel_rfl) ?_
    refine Wp.ret ?_
    exact ⟨Or.inr rfl, [.one (vb true)], by kernel_rfl, (congrArg (fun z => some [Y.one (vb z)]) (show true = ahead l from by rw [h3]; exact (ahead_end (by omega) (by omega)).symm))⟩
theorem fn10 (b nil capd : Bool) (l : List EN.T) (hl : (l.length : Int) ≤ 4611686018427387904) : PureC pg an 10 [.one (sv EN b nil capd l)] [.one (vb (ahead l))] := by
  refine Runs.of (fn := Try.f10) Try.func10 rfl (by kernel_rfl) [(0, .y (.one (sv EN b nil capd l)))] (by kernel_rfl) ?_
  refine Wp.regionSeq [] [(0, .y (.one (sv EN b nil capd l)))] []
    (cast trivial (by kernel_rfl)) (by kernel_rfl) ?_
  refine Wp.seq ?_
  refine Wp.regionSeq [] [(0, .y (.one (sv EN b nil capd l))), (3, xi 1)] []
    (cast trivial (by kernel_rfl)) (by kernel_rfl) ?_
  refine Wp.block ?_
  refine Wp.loop (T := Int) (fun (t : Int) => let i := t; (((l.length : Int) - i).toNat : Nat)) (fun (t : Int) => let i := t; ([(0, .y (.one (sv EN b nil capd l))), (3, xi i)] : Env)) (fun (t : Int) => let i := t; ([] : Go.Lg.Heap))
    (fun (t : Int) => let i := t; (1 ≤ i ∧ ahead l = ahead (l.drop (i - 1).toNat) : Prop)) 1 (by kernel_rfl) (by exact ⟨by omega, by simp⟩) ?_
  rintro i ⟨h1, h3⟩
  show Wp _ _ _ _ [(0, .y (.one (sv EN b nil capd l))), (3, xi i)] [] _
  refine Wp.seq ?_
  by_cases c1 : (i : Int) < ((l.length : Int))
  ·
    refine Wp.regionSeq [(3, xb true, [])] [(0, .y (.one (sv EN b nil capd l))), (3, xi i), (7, xb true)] []
      (cast (And.intro (ob_raw (P := pg) (A := an) (vals := [xi i, xi ((l.length : Int))]) (H := []) (op := .binOp .lss 3 (.tmp 0) (.tmp 1) 3) (ty := 0) (r := xb (decide ((i : Int) < ((l.length : Int))))) (v := xb true) (by kernel_rfl) (congrArg (fun z => xb z) (decide_eq_true (by omega)))) trivial) (by kernel_rfl)) (by kernel_rfl) ?_
    refine Wp.condT (by kernel_rfl) ?_
    refine Wp.skip ?_
    refine Wp.seq ?_
    refine Wp.block ?_
    obtain ⟨x2, hx2⟩ : ∃ x, l[(i : Int).toNat]? = some x := get_of (by omega)
    rcases Bool.eq_false_or_eq_true (x2.2.1) with c3 | c3
    ·
      obtain ⟨x4, hx4⟩ : ∃ x, l[((i - 1) : Int).toNat]? = some x := get_of (by omega)
      rcases Bool.eq_false_or_eq_true (x4.2.1) with c5 | c5
      ·
        refine Wp.regionSeq [(2, .y (.one (.rd ([vi x2.1.1, vi x2.1.2.1, vb x2.2.1] ++ (l.drop ((i : Int).toNat + 1)).flatMap (enc EN)))), []), (4, xb true, []), (8, xi (i - 1), []), (9, .y (.one (.rd ([vi x4.1.1, vi x4.1.2.1, vb x4.2.1] ++ (l.drop (((i - 1) : Int).toNat + 1)).flatMap (enc EN)))), []), (11, xb true, [])] [(0, .y (.one (sv EN b nil capd l))), (3, xi i), (23, xb false)] []
          (cast (And.intro (ob_index (P := pg) (A := an) (H := []) (s := EN) (b := b) (nil := nil) (capd := capd) (t := 22) (el := 35) (i := i) Try.underlying22 (by kernel_rfl) (by kernel_rfl) (by omega) hx2) (And.intro (ob_raw (P := pg) (A := an) (vals := [.y (.one (.rd ([vb x2.2.1] ++ (l.drop ((i : Int).toNat + 1)).flatMap (enc EN))))]) (H := []) (op := .load 4 (.tmp 0)) (ty := 0) (r := xb x2.2.1) (v := xb true) (by kernel_rfl) (congrArg (fun z => xb z) (c3))) (And.intro (ob_raw (P := pg) (A := an) (vals := [xi i, xi 1]) (H := []) (op := .binOp .sub 3 (.tmp 0) (.tmp 1) 3) (ty := 0) (r := xi (IntKind.wrap .i64 (i - 1))) (v := xi (i - 1)) (by kernel_rfl) (congrArg (fun z => xi z) ((wrap64 (by omega)).trans (by omega)))) (And.intro (ob_index (P := pg) (A := an) (H := []) (s := EN) (b := b) (nil := nil) (capd := capd) (t := 22) (el := 35) (i := (i - 1)) Try.underlying22 (by kernel_rfl) (by kernel_rfl) (by omega) hx4) (And.intro (ob_raw (P := pg) (A := an) (vals := [.y (.one (.rd ([vb x4.2.1] ++ (l.drop (((i - 1) : Int).toNat + 1)).flatMap (enc EN))))]) (H := []) (op := .load 4 (.tmp 0)) (ty := 0) (r := xb x4.2.1) (v := xb true) (by kernel_rfl) (congrArg (fun z => xb z) (c5))) trivial))))) (by kernel_rfl)) (by kernel_rfl) ?_
        refine Wp.condF (by kernel_rfl) ?_
        refine Wp.skip ?_
        refine Wp.region [(1, xi (i + 1), [])] [(0, .y (.one (sv EN b nil capd l))), (3, xi (i + 1))] []
          (cast (And.intro (ob_raw (P := pg) (A := an) (vals := [xi i, xi 1]) (H := []) (op := .binOp .add 3 (.tmp 0) (.tmp 1) 3) (ty := 0) (r := xi (IntKind.wrap .i64 (i + 1))) (v := xi (i + 1)) (by kernel_rfl) (congrArg (fun z => xi z) ((wrap64 (by omega)).trans (by omega)))) trivial) (by kernel_rfl)) (by kernel_rfl) ?_
        exact ⟨(i + 1), by kernel_rfl, (by exact ⟨by omega, by have := ahead_drop (i := i) (by omega) hx4 hx2; rw [show i + 1 - 1 = i by omega, h3, this]; simp [c5, c3]⟩), (by show (_ : Nat) < _; simp only []; omega)⟩
      ·
        refine Wp.regionSeq [(2, .y (.one (.rd ([vi x2.1.1, vi x2.1.2.1, vb x2.2.1] ++ (l.drop ((i : Int).toNat + 1)).flatMap (enc EN)))), []), (4, xb true, []), (8, xi (i - 1), []), (9, .y (.one (.rd ([vi x4.1.1, vi x4.1.2.1, vb x4.2.1] ++ (l.drop (((i - 1) : Int).toNat + 1)).flatMap (enc EN)))), []), (11, xb false, [])] [(0, .y (.one (sv EN b nil capd l))), (3, xi i), (23, xb true)] []
          (cast (And.intro (ob_index (P := pg) (A := an) (H := []) (s := EN) (b := b) (nil := nil) (capd := capd) (t := 22) (el := 35) (i := i) Try.underlying22 (by kernel_rfl) (by kernel_rfl) (by omega) hx2) (And.intro (ob_raw (P := pg) (A := an) (vals := [.y (.one (.rd ([vb x2.2.1] ++ (l.drop ((i : Int).toNat + 1)).flatMap (enc EN))))]) (H := []) (op := .load 4 (.tmp 0)) (ty := 0) (r := xb x2.2.1) (v := xb true) (by kernel_rfl) (congrArg (fun z => xb z) (c3))) (And.intro (ob_raw (P := pg) (A := an) (vals := [xi i, xi 1]) (H := []) (op := .binOp .sub 3 (.tmp 0) (.tmp 1) 3) (ty := 0) (r := xi (IntKind.wrap .i64 (i - 1))) (v := xi (i - 1)) (by kernel_rfl) (congrArg (fun z => xi z) ((wrap64 (by omega)).trans (by omega)))) (And.intro (ob_index (P := pg) (A := an) (H := []) (s := EN) (b := b) (nil := nil) (capd := capd) (t := 22) (el := 35) (i := (i - 1)) Try.underlying22 (by kernel_rfl) (by kernel_rfl) (by omega) hx4) (And.intro (ob_raw (P := pg) (A := an) (vals := [.y (.one (.rd ([vb x4.2.1] ++ (l.drop (((i - 1) : Int).toNat + 1)).flatMap (enc EN))))]) (H := []) (op := .load 4 (.tmp 0)) (ty := 0) (r := xb x4.2.1) (v := xb false) (by kernel_rfl) (congrArg (fun z => xb z) (c5))) trivial))))) (by kernel_rfl)) (by kernel_rfl) ?_
        refine Wp.condT (by kernel_rfl) ?_
        refine Wp.regionSeq [] [(2, xb false)] []
          (cast trivial (by kernel_rfl)) (by kernel_rfl) ?_
        refine Wp.ret ?_
        exact ⟨Or.inr rfl, [.one (vb false)], by kernel_rfl, (congrArg (fun z => some [Y.one (vb z)]) (show false = ahead l from by have := ahead_drop (i := i) (by omega) hx4 hx2; rw [h3, this]; simp [c5, c3]))⟩
    ·
      refine Wp.regionSeq [(2, .y (.one (.rd ([vi x2.1.1, vi x2.1.2.1, vb x2.2.1] ++ (l.drop ((i : Int).toNat + 1)).flatMap (enc EN)))), []), (4, xb false, [])] [(0, .y (.one (sv EN b nil capd l))), (3, xi i), (23, xb false)] []
        (cast (And.intro (ob_index (P := pg) (A := an) (H := []) (s := EN) (b := b) (nil := nil) (capd := capd) (t := 22) (el := 35) (i := i) Try.underlying22 (by kernel_rfl) (by kernel_rfl) (by omega) hx2) (And.intro (ob_raw (P := pg) (A := an) (vals := [.y (.one (.rd ([vb x2.2.1] ++ (l.drop ((i : Int).toNat + 1)).flatMap (enc EN))))]) (H := []) (op := .load 4 (.tmp 0)) (ty := 0) (r := xb x2.2.1) (v := xb false) (by kernel_rfl) (congrArg (fun z => xb z) (c3))) trivial)) (by kernel_rfl)) (by kernel_rfl) ?_
      refine Wp.condF (by kernel_rfl) ?_
      refine Wp.skip ?_
      refine Wp.region [(1, xi (i + 1), [])] [(0, .y (.one (sv EN b nil capd l))), (3, xi (i + 1))] []
        (cast (And.intro (ob_raw (P := pg) (A := an) (vals := [xi i, xi 1]) (H := []) (op := .binOp .add 3 (.tmp 0) (.tmp 1) 3) (ty := 0) (r := xi (IntKind.wrap .i64 (i + 1))) (v := xi (i + 1)) (by kernel_rfl) (congrArg (fun z => xi z) ((wrap64 (by omega)).trans (by omega)))) trivial) (by kernel_rfl)) (by kernel_rfl) ?_
      exact ⟨(i + 1), by kernel_rfl, (by exact ⟨by omega, by have hx := get_of (l := l) (i := (i - 1).toNat) (by omega); obtain ⟨x, hx⟩ := hx; have := ahead_drop (i := i) (by omega) hx hx2; rw [show i + 1 - 1 = i by omega, h3, this]; simp [c3]⟩), (by show (_ : Nat) < _; simp only []; omega)⟩
  ·
    refine Wp.regionSeq [(3, xb false, [])] [(0, .y (.one (sv EN b nil capd l))), (3, xi i), (7, xb false)] []
      (cast (And.intro (ob_raw (P := pg) (A := an) (vals := [xi i, xi ((l.length : Int))]) (H := []) (op := .binOp .lss 3 (.tmp 0) (.tmp 1) 3) (ty := 0) (r := xb (decide ((i : Int) < ((l.length : Int))))) (v := xb false) (by kernel_rfl) (congrArg (fun z => xb z) (decide_eq_false (by omega)))) trivial) (by kernel_rfl)) (by kernel_rfl) ?_
    refine Wp.condF (by kernel_rfl) ?_
    refine Wp.exit ?_
    refine Eq.mpr (if_pos rfl) ?_
    refine Wp.regionSeq [] [(2, xb true)] []
      (cast trivial (by kernel_rfl)) (by kernel_rfl) ?_
    refine Wp.ret ?_
    exact ⟨Or.inr rfl, [.one (vb true)], by kernel_rfl, (congrArg (fun z => some [Y.one (vb z)]) (show true = ahead l from by rw [h3]; exact (ahead_end (by omega) (by omega)).symm))⟩
theorem fn11 (b0 nil0 capd0 b1 nil1 capd1 b2 nil2 capd2 : Bool) (l0 l1 l2 : List EN.T) (r0 r1 r2 : Int) (hl0 : (l0.length : Int) ≤ 4611686018427387904) (hl1 : (l1.length : Int) ≤ 4611686018427387904) (hl2 : (l2.length : Int) ≤ 4611686018427387904) : PureC pg an 11 [.agg [sv EN b0 nil0 capd0 l0, sv EN b1 nil1 capd1 l1, sv EN b2 nil2 capd2 l2], .agg [vi r0, vi r1, vi r2]] [.one (vi (plan (half l0) (half l1) (half l2) r0 r1 r2).1), .one (vi (plan (half l0) (half l1) (half l2) r0 r1 r2).2.1), .one (vi (plan (half l0) (half l1) (half l2) r0 r1 r2).2.2)] := by
  refine Runs.of (fn := Try.f11) Try.func11 rfl (by kernel_rfl) [(0, .y (.agg [sv EN b0 nil0 capd0 l0, sv EN b1 nil1 capd1 l1, sv EN b2 nil2 capd2 l2])), (1, .y (.agg [vi r0, vi r1, vi r2]))] (by kernel_rfl) ?_
  refine Wp.regionSeq [] [(2, .y (.one (.ptr 0 0))), (3, .y (.one (.ptr 1 0)))] [.obj [sv EN b0 nil0 capd0 l0, sv EN b1 nil1 capd1 l1, sv EN b2 nil2 capd2 l2], .obj [vi r0, vi r1, vi r2]]
    (cast trivial (by kernel_rfl)) (by kernel_rfl) ?_
  refine Wp.seq ?_
  refine Wp.regionSeq [] [(2, .y (.one (.ptr 0 0))), (3, .y (.one (.ptr 1 0))), (11, .y (.agg [vi r0, vi r1, vi r2])), (12, xi 0)] [.obj [sv EN b0 nil0 capd0 l0, sv EN b1 nil1 capd1 l1, sv EN b2 nil2 capd2 l2], .obj [vi r0, vi r1, vi r2]]
    (cast trivial (by kernel_rfl)) (by kernel_rfl) ?_
  refine Wp.block ?_
  refine Wp.loopU [(2, .y (.one (.ptr 0 0))), (3, .y (.one (.ptr 1 0))), (11, .y (.agg [vi r0, vi r1, vi r2])), (12, xi 0)] (some ([2, 3, 11, 12], true)) 2 (by kernel_rfl) ?_
  refine WpL.step ?_
  refine Wp.regionSeq [] [(2, .y (.one (.ptr 0 0))), (3, .y (.one (.ptr 1 0))), (11, .y (.agg [vi r0, vi r1, vi r2])), (12, xi 0), (13, xb true)] [.obj [sv EN b0 nil0 capd0 l0, sv EN b1 nil1 capd1 l1, sv EN b2 nil2 capd2 l2], .obj [vi r0, vi r1, vi r2]]
    (cast trivial (by kernel_rfl)) (by kernel_rfl) ?_
  refine Wp.seq ?_
  refine Wp.condT (by kernel_rfl) ?_
  refine Wp.skip ?_
  refine Wp.seq ?_
  refine Wp.block ?_
  refine Wp.regionSeq [] [(2, .y (.one (.ptr 0 0))), (3, .y (.one (.ptr 1 0))), (8, xi r0), (11, .y (.agg [vi r0, vi r1, vi r2])), (12, xi 0)] [.obj [sv EN b0 nil0 capd0 l0, sv EN b1 nil1 capd1 l1, sv EN b2 nil2 capd2 l2], .obj [vi r0, vi r1, vi r2]]
    (cast trivial (by kernel_rfl)) (by kernel_rfl) ?_
  by_cases c1 : (r0 : Int) < 0
  ·
    refine Wp.regionSeq [(1, xb true, [.obj [sv EN b0 nil0 capd0 l0, sv EN b1 nil1 capd1 l1, sv EN b2 nil2 capd2 l2], .obj [vi r0, vi r1, vi r2]])] [(2, .y (.one (.ptr 0 0))), (3, .y (.one (.ptr 1 0))), (11, .y (.agg [vi r0, vi r1, vi r2])), (12, xi 0), (16, xb true)] [.obj [sv EN b0 nil0 capd0 l0, sv EN b1 nil1 capd1 l1, sv EN b2 nil2 capd2 l2], .obj [vi r0, vi r1, vi r2]]
      (cast (And.intro (ob_raw (P := pg) (A := an) (vals := [xi r0, xi 0]) (H := [.obj [sv EN b0 nil0 capd0 l0, sv EN b1 nil1 capd1 l1, sv EN b2 nil2 capd2 l2], .obj [vi r0, vi r1, vi r2]]) (op := .binOp .lss 3 (.tmp 0) (.tmp 1) 3) (ty := 0) (r := xb (decide ((r0 : Int) < 0))) (v := xb true) (by kernel_rfl) (congrArg (fun z => xb z) (decide_eq_true (by omega)))) trivial) (by kernel_rfl)) (by kernel_rfl) ?_
    refine Wp.condT (by kernel_rfl) ?_
    refine Wp.regionSeq [] [(4, xi 0), (5, xi 0), (6, xi 1)] [.obj [sv EN b0 nil0 capd0 l0, sv EN b1 nil1 capd1 l1, sv EN b2 nil2 capd2 l2], .obj [vi r0, vi r1, vi r2]]
      (cast trivial (by kernel_rfl)) (by kernel_rfl) ?_
    refine Wp.ret ?_
    exact ⟨Or.inr rfl, [.one (vi 0), .one (vi 0), .one (vi 1)], by kernel_rfl, (by have hp : plan (half l0) (half l1) (half l2) r0 r1 r2 = (0, 0, 1) := by { unfold plan pick; repeat' first | rw [if_pos (by omega)] | rw [if_neg (by omega)] }; rw [hp]; rfl)⟩
  ·
    refine Wp.regionSeq [(1, xb false, [.obj [sv EN b0 nil0 capd0 l0, sv EN b1 nil1 capd1 l1, sv EN b2 nil2 capd2 l2], .obj [vi r0, vi r1, vi r2]])] [(2, .y (.one (.ptr 0 0))), (3, .y (.one (.ptr 1 0))), (11, .y (.agg [vi r0, vi r1, vi r2])), (12, xi 0), (16, xb false)] [.obj [sv EN b0 nil0 capd0 l0, sv EN b1 nil1 capd1 l1, sv EN b2 nil2 capd2 l2], .obj [vi r0, vi r1, vi r2]]
      (cast (And.intro (ob_raw (P := pg) (A := an) (vals := [xi r0, xi 0]) (H := [.obj [sv EN b0 nil0 capd0 l0, sv EN b1 nil1 capd1 l1, sv EN b2 nil2 capd2 l2], .obj [vi r0, vi r1, vi r2]]) (op := .binOp .lss 3 (.tmp 0) (.tmp 1) 3) (ty := 0) (r := xb (decide ((r0 : Int) < 0))) (v := xb false) (by kernel_rfl) (congrArg (fun z => xb z) (decide_eq_false (by omega)))) trivial) (by kernel_rfl)) (by kernel_rfl) ?_
    refine Wp.condF (by kernel_rfl) ?_
    refine Wp.skip ?_
    refine Wp.region [] [(2, .y (.one (.ptr 0 0))), (3, .y (.one (.ptr 1 0))), (11, .y (.agg [vi r0, vi r1, vi r2])), (12, xi 1)] [.obj [sv EN b0 nil0 capd0 l0, sv EN b1 nil1 capd1 l1, sv EN b2 nil2 capd2 l2], .obj [vi r0, vi r1, vi r2]]
      (cast trivial (by kernel_rfl)) (by kernel_rfl) ?_
    refine ⟨[(2, .y (.one (.ptr 0 0))), (3, .y (.one (.ptr 1 0))), (11, .y (.agg [vi r0, vi r1, vi r2])), (12, xi 1)], [.obj [sv EN b0 nil0 capd0 l0, sv EN b1 nil1 capd1 l1, sv EN b2 nil2 capd2 l2], .obj [vi r0, vi r1, vi r2]], by kernel_rfl, ?_⟩
    refine WpL.step ?_
    refine Wp.regionSeq [] [(2, .y (.one (.ptr 0 0))), (3, .y (.one (.ptr 1 0))), (11, .y (.agg [vi r0, vi r1, vi r2])), (12, xi 1), (13, xb true)] [.obj [sv EN b0 nil0 capd0 l0, sv EN b1 nil1 capd1 l1, sv EN b2 nil2 capd2 l2], .obj [vi r0, vi r1, vi r2]]
      (cast trivial (by kernel_rfl)) (by kernel_rfl) ?_
    refine Wp.seq ?_
    refine Wp.condT (by kernel_rfl) ?_
    refine Wp.skip ?_
    refine Wp.seq ?_
    refine Wp.block ?_
    refine Wp.regionSeq [] [(2, .y (.one (.ptr 0 0))), (3, .y (.one (.ptr 1 0))), (8, xi r1), (11, .y (.agg [vi r0, vi r1, vi r2])), (12, xi 1)] [.obj [sv EN b0 nil0 capd0 l0, sv EN b1 nil1 capd1 l1, sv EN b2 nil2 capd2 l2], .obj [vi r0, vi r1, vi r2]]
      (cast trivial (by kernel_rfl)) (by kernel_rfl) ?_
    by_cases c2 : (r1 : Int) < 0
    ·
      refine Wp.regionSeq [(1, xb true, [.obj [sv EN b0 nil0 capd0 l0, sv EN b1 nil1 capd1 l1, sv EN b2 nil2 capd2 l2], .obj [vi r0, vi r1, vi r2]])] [(2, .y (.one (.ptr 0 0))), (3, .y (.one (.ptr 1 0))), (11, .y (.agg [vi r0, vi r1, vi r2])), (12, xi 1), (16, xb true)] [.obj [sv EN b0 nil0 capd0 l0, sv EN b1 nil1 capd1 l1, sv EN b2 nil2 capd2 l2], .obj [vi r0, vi r1, vi r2]]
        (cast (And.intro (ob_raw (P := pg) (A := an) (vals := [xi r1, xi 0]) (H := [.obj [sv EN b0 nil0 capd0 l0, sv EN b1 nil1 capd1 l1, sv EN b2 nil2 capd2 l2], .obj [vi r0, vi r1, vi r2]]) (op := .binOp .lss 3 (.tmp 0) (.tmp 1) 3) (ty := 0) (r := xb (decide ((r1 : Int) < 0))) (v := xb true) (by kernel_rfl) (congrArg (fun z => xb z) (decide_eq_true (by omega)))) trivial) (by kernel_rfl)) (by kernel_rfl) ?_
      refine Wp.condT (by kernel_rfl) ?_
      refine Wp.regionSeq [] [(4, xi 0), (5, xi 0), (6, xi 1)] [.obj [sv EN b0 nil0 capd0 l0, sv EN b1 nil1 capd1 l1, sv EN b2 nil2 capd2 l2], .obj [vi r0, vi r1, vi r2]]
        (cast trivial (by kernel_rfl)) (by kernel_rfl) ?_
      refine Wp.ret ?_
      exact ⟨Or.inr rfl, [.one (vi 0), .one (vi 0), .one (vi 1)], by kernel_rfl, (by have hp : plan (half l0) (half l1) (half l2) r0 r1 r2 = (0, 0, 1) := by { unfold plan pick; repeat' first | rw [if_pos (by omega)] | rw [if_neg (by omega)] }; rw [hp]; rfl)⟩
    ·
      refine Wp.regionSeq [(1, xb false, [.obj [sv EN b0 nil0 capd0 l0, sv EN b1 nil1 capd1 l1, sv EN b2 nil2 capd2 l2], .obj [vi r0, vi r1, vi r2]])] [(2, .y (.one (.ptr 0 0))), (3, .y (.one (.ptr 1 0))), (11, .y (.agg [vi r0, vi r1, vi r2])), (12, xi 1), (16, xb false)] [.obj [sv EN b0 nil0 capd0 l0, sv EN b1 nil1 capd1 l1, sv EN b2 nil2 capd2 l2], .obj [vi r0, vi r1, vi r2]]
        (cast (And.intro (ob_raw (P := pg) (A := an) (vals := [xi r1, xi 0]) (H := [.obj [sv EN b0 nil0 capd0 l0, sv EN b1 nil1 capd1 l1, sv EN b2 nil2 capd2 l2], .obj [vi r0, vi r1, vi r2]]) (op := .binOp .lss 3 (.tmp 0) (.tmp 1) 3) (ty := 0) (r := xb (decide ((r1 : Int) < 0))) (v := xb false) (by kernel_rfl) (congrArg (fun z => xb z) (decide_eq_false (by omega)))) trivial) (by kernel_rfl)) (by kernel_rfl) ?_
      refine Wp.condF (by kernel_rfl) ?_
      refine Wp.skip ?_
      refine Wp.region [] [(2, .y (.one (.ptr 0 0))), (3, .y (.one (.ptr 1 0))), (11, .y (.agg [vi r0, vi r1, vi r2])), (12, xi 2)] [.obj [sv EN b0 nil0 capd0 l0, sv EN b1 nil1 capd1 l1, sv EN b2 nil2 capd2 l2], .obj [vi r0, vi r1, vi r2]]
        (cast trivial (by kernel_rfl)) (by kernel_rfl) ?_
      refine ⟨[(2, .y (.one (.ptr 0 0))), (3, .y (.one (.ptr 1 0))), (11, .y (.agg [vi r0, vi r1, vi r2])), (12, xi 2)], [.obj [sv EN b0 nil0 capd0 l0, sv EN b1 nil1 capd1 l1, sv EN b2 nil2 capd2 l2], .obj [vi r0, vi r1, vi r2]], by kernel_rfl, ?_⟩
      refine WpL.step ?_
      refine Wp.regionSeq [] [(2, .y (.one (.ptr 0 0))), (3, .y (.one (.ptr 1 0))), (11, .y (.agg [vi r0, vi r1, vi r2])), (12, xi 2), (13, xb true)] [.obj [sv EN b0 nil0 capd0 l0, sv EN b1 nil1 capd1 l1, sv EN b2 nil2 capd2 l2], .obj [vi r0, vi r1, vi r2]]
        (cast trivial (by kernel_rfl)) (by kernel_rfl) ?_
      refine Wp.seq ?_
      refine Wp.condT (by kernel_rfl) ?_
      refine Wp.skip ?_
      refine Wp.seq ?_
      refine Wp.block ?_
      refine Wp.regionSeq [] [(2, .y (.one (.ptr 0 0))), (3, .y (.one (.ptr 1 0))), (8, xi r2), (11, .y (.agg [vi r0, vi r1, vi r2])), (12, xi 2)] [.obj [sv EN b0 nil0 capd0 l0, sv EN b1 nil1 capd1 l1, sv EN b2 nil2 capd2 l2], .obj [vi r0, vi r1, vi r2]]
        (cast trivial (by kernel_rfl)) (by kernel_rfl) ?_
      by_cases c3 : (r2 : Int) < 0
      ·
        refine Wp.regionSeq [(1, xb true, [.obj [sv EN b0 nil0 capd0 l0, sv EN b1 nil1 capd1 l1, sv EN b2 nil2 capd2 l2], .obj [vi r0, vi r1, vi r2]])] [(2, .y (.one (.ptr 0 0))), (3, .y (.one (.ptr 1 0))), (11, .y (.agg [vi r0, vi r1, vi r2])), (12, xi 2), (16, xb true)] [.obj [sv EN b0 nil0 capd0 l0, sv EN b1 nil1 capd1 l1, sv EN b2 nil2 capd2 l2], .obj [vi r0, vi r1, vi r2]]
          (cast (And.intro (ob_raw (P := pg) (A := an) (vals := [xi r2, xi 0]) (H := [.obj [sv EN b0 nil0 capd0 l0, sv EN b1 nil1 capd1 l1, sv EN b2 nil2 capd2 l2], .obj [vi r0, vi r1, vi r2]]) (op := .binOp .lss 3 (.tmp 0) (.tmp 1) 3) (ty := 0) (r := xb (decide ((r2 : Int) < 0))) (v := xb true) (by kernel_rfl) (congrArg (fun z => xb z) (decide_eq_true (by omega)))) trivial) (by kernel_rfl)) (by kernel_rfl) ?_
        refine Wp.condT (by kernel_rfl) ?_
        refine Wp.regionSeq [] [(4, xi 0), (5, xi 0), (6, xi 1)] [.obj [sv EN b0 nil0 capd0 l0, sv EN b1 nil1 capd1 l1, sv EN b2 nil2 capd2 l2], .obj [vi r0, vi r1, vi r2]]
          (cast trivial (by kernel_rfl)) (by kernel_rfl) ?_
        refine Wp.ret ?_
        exact ⟨Or.inr rfl, [.one (vi 0), .one (vi 0), .one (vi 1)], by kernel_rfl, (by have hp : plan (half l0) (half l1) (half l2) r0 r1 r2 = (0, 0, 1) := by { unfold plan pick; repeat' first | rw [if_pos (by omega)] | rw [if_neg (by omega)] }; rw [hp]; rfl)⟩
      ·
        refine Wp.regionSeq [(1, xb false, [.obj [sv EN b0 nil0 capd0 l0, sv EN b1 nil1 capd1 l1, sv EN b2 nil2 capd2 l2], .obj [vi r0, vi r1, vi r2]])] [(2, .y (.one (.ptr 0 0))), (3, .y (.one (.ptr 1 0))), (11, .y (.agg [vi r0, vi r1, vi r2])), (12, xi 2), (16, xb false)] [.obj [sv EN b0 nil0 capd0 l0, sv EN b1 nil1 capd1 l1, sv EN b2 nil2 capd2 l2], .obj [vi r0, vi r1, vi r2]]
          (cast (And.intro (ob_raw (P := pg) (A := an) (vals := [xi r2, xi 0]) (H := [.obj [sv EN b0 nil0 capd0 l0, sv EN b1 nil1 capd1 l1, sv EN b2 nil2 capd2 l2], .obj [vi r0, vi r1, vi r2]]) (op := .binOp .lss 3 (.tmp 0) (.tmp 1) 3) (ty := 0) (r := xb (decide ((r2 : Int) < 0))) (v := xb false) (by kernel_rfl) (congrArg (fun z => xb z) (decide_eq_false (by omega)))) trivial) (by kernel_rfl)) (by kernel_rfl) ?_
        refine Wp.condF (by kernel_rfl) ?_
        refine Wp.skip ?_
        refine Wp.region [] [(2, .y (.one (.ptr 0 0))), (3, .y (.one (.ptr 1 0))), (11, .y (.agg [vi r0, vi r1, vi r2])), (12, xi 3)] [.obj [sv EN b0 nil0 capd0 l0, sv EN b1 nil1 capd1 l1, sv EN b2 nil2 capd2 l2], .obj [vi r0, vi r1, vi r2]]
          (cast trivial (by kernel_rfl)) (by kernel_rfl) ?_
        refine ⟨[(2, .y (.one (.ptr 0 0))), (3, .y (.one (.ptr 1 0))), (11, .y (.agg [vi r0, vi r1, vi r2])), (12, xi 3)], [.obj [sv EN b0 nil0 capd0 l0, sv EN b1 nil1 capd1 l1, sv EN b2 nil2 capd2 l2], .obj [vi r0, vi r1, vi r2]], by kernel_rfl, ?_⟩
        refine WpL.step ?_
        refine Wp.regionSeq [] [(2, .y (.one (.ptr 0 0))), (3, .y (.one (.ptr 1 0))), (11, .y (.agg [vi r0, vi r1, vi r2])), (12, xi 3), (13, xb false)] [.obj [sv EN b0 nil0 capd0 l0, sv EN b1 nil1 capd1 l1, sv EN b2 nil2 capd2 l2], .obj [vi r0, vi r1, vi r2]]
          (cast trivial (by kernel_rfl)) (by kernel_rfl) ?_
        refine Wp.seq ?_
        refine Wp.condF (by kernel_rfl) ?_
        refine Wp.exit ?_
        refine Eq.mpr (if_pos rfl) ?_
        refine Wp.seq ?_
        refine Wp.regionSeq [] [(2, .y (.one (.ptr 0 0))), (3, .y (.one (.ptr 1 0))), (18, xi 0)] [.obj [sv EN b0 nil0 capd0 l0, sv EN b1 nil1 capd1 l1, sv EN b2 nil2 capd2 l2], .obj [vi r0, vi r1, vi r2]]
          (cast trivial (by kernel_rfl)) (by kernel_rfl) ?_
        refine Wp.block ?_
        refine Wp.loopU [(2, .y (.one (.ptr 0 0))), (3, .y (.one (.ptr 1 0))), (18, xi 0)] (some ([2, 3, 18], true)) 2 (by kernel_rfl) ?_
        refine WpL.step ?_
        refine Wp.regionSeq [] [(2, .y (.one (.ptr 0 0))), (3, .y (.one (.ptr 1 0))), (18, xi 0), (19, xb true)] [.obj [sv EN b0 nil0 capd0 l0, sv EN b1 nil1 capd1 l1, sv EN b2 nil2 capd2 l2], .obj [vi r0, vi r1, vi r2]]
          (cast trivial (by kernel_rfl)) (by kernel_rfl) ?_
        refine Wp.seq ?_
        refine Wp.condT (by kernel_rfl) ?_
        refine Wp.skip ?_
        refine Wp.seq ?_
        refine Wp.block ?_
        refine Wp.regionSeq [] [(2, .y (.one (.ptr 0 0))), (3, .y (.one (.ptr 1 0))), (9, xi 0), (18, xi 0)] [.obj [sv EN b0 nil0 capd0 l0, sv EN b1 nil1 capd1 l1, sv EN b2 nil2 capd2 l2], .obj [vi r0, vi r1, vi r2]]
          (cast trivial (by kernel_rfl)) (by kernel_rfl) ?_
        have hhz4 := half_is (l0)
        by_cases c6 : (r0 : Int) < ((half l0))
        ·
          refine Wp.regionSeq [(3, xi ((half l0)), [.obj [sv EN b0 nil0 capd0 l0, sv EN b1 nil1 capd1 l1, sv EN b2 nil2 capd2 l2], .obj [vi r0, vi r1, vi r2]]), (7, xi r0, [.obj [sv EN b0 nil0 capd0 l0, sv EN b1 nil1 capd1 l1, sv EN b2 nil2 capd2 l2], .obj [vi r0, vi r1, vi r2]])] [(2, .y (.one (.ptr 0 0))), (3, .y (.one (.ptr 1 0))), (9, xi 0), (10, xi r0), (18, xi 0)] [.obj [sv EN b0 nil0 capd0 l0, sv EN b1 nil1 capd1 l1, sv EN b2 nil2 capd2 l2], .obj [vi r0, vi r1, vi r2]]
            (cast (And.intro (ob_pure (P := pg) (A := an) (H := [.obj [sv EN b0 nil0 capd0 l0, sv EN b1 nil1 capd1 l1, sv EN b2 nil2 capd2 l2], .obj [vi r0, vi r1, vi r2]]) (g := 7) (vals := [.y (.one (sv EN b0 nil0 capd0 l0))]) (xs0 := [.one (sv EN b0 nil0 capd0 l0)]) (xs1 := [.one (sv EN b0 nil0 capd0 l0)]) (res := [.one (vi ((half l0)))]) (ats := #[]) (ty := 0) (v := xi ((half l0))) [.tmp 0] (by kernel_rfl) (by kernel_rfl) (by kernel_rfl) (fn7 _ _ _ l0 (by omega)) (by kernel_rfl)) (And.intro (ob_raw (P := pg) (A := an) (vals := [xi ((half l0)), xi r0]) (H := [.obj [sv EN b0 nil0 capd0 l0, sv EN b1 nil1 capd1 l1, sv EN b2 nil2 capd2 l2], .obj [vi r0, vi r1, vi r2]]) (op := .call { callee := .builtin .min, args := #[.tmp 0, .tmp 1], argTypes := #[3, 3] }) (ty := 0) (r := xi (if (r0 : Int) < ((half l0)) then r0 else ((half l0)))) (v := xi r0) (by kernel_rfl) (congrArg (fun z => xi z) (if_pos (by omega)))) trivial)) (by kernel_rfl)) (by kernel_rfl) ?_
          by_cases c8 : (0 : Int) < r0
          ·
            refine Wp.regionSeq [(1, xb true, [.obj [sv EN b0 nil0 capd0 l0, sv EN b1 nil1 capd1 l1, sv EN b2 nil2 capd2 l2], .obj [vi r0, vi r1, vi r2]])] [(2, .y (.one (.ptr 0 0))), (3, .y (.one (.ptr 1 0))), (9, xi 0), (10, xi r0), (18, xi 0), (30, xb true)] [.obj [sv EN b0 nil0 capd0 l0, sv EN b1 nil1 capd1 l1, sv EN b2 nil2 capd2 l2], .obj [vi r0, vi r1, vi r2]]
              (cast (And.intro (ob_raw (P := pg) (A := an) (vals := [xi r0, xi 0]) (H := [.obj [sv EN b0 nil0 capd0 l0, sv EN b1 nil1 capd1 l1, sv EN b2 nil2 capd2 l2], .obj [vi r0, vi r1, vi r2]]) (op := .binOp .gtr 3 (.tmp 0) (.tmp 1) 3) (ty := 0) (r := xb (decide ((r0 : Int) > 0))) (v := xb true) (by kernel_rfl) (congrArg (fun z => xb z) (decide_eq_true (by omega)))) trivial) (by kernel_rfl)) (by kernel_rfl) ?_
            refine Wp.condT (by kernel_rfl) ?_
            refine Wp.regionSeq [] [(4, xi 0), (5, xi r0), (6, xi 0)] [.obj [sv EN b0 nil0 capd0 l0, sv EN b1 nil1 capd1 l1, sv EN b2 nil2 capd2 l2], .obj [vi r0, vi r1, vi r2]]
              (cast trivial (by kernel_rfl)) (by kernel_rfl) ?_
            refine Wp.ret ?_
            exact ⟨Or.inr rfl, [.one (vi 0), .one (vi r0), .one (vi 0)], by kernel_rfl, (by have hp : plan (half l0) (half l1) (half l2) r0 r1 r2 = (0, r0, 0) := by { unfold plan pick; repeat' first | rw [if_pos (by omega)] | rw [if_neg (by omega)] }; rw [hp]; rfl)⟩
          ·
            refine Wp.regionSeq [(1, xb false, [.obj [sv EN b0 nil0 capd0 l0, sv EN b1 nil1 capd1 l1, sv EN b2 nil2 capd2 l2], .obj [vi r0, vi r1, vi r2]])] [(2, .y (.one (.ptr 0 0))), (3, .y (.one (.ptr 1 0))), (9, xi 0), (10, xi r0), (18, xi 0), (30, xb false)] [.obj [sv EN b0 nil0 capd0 l0, sv EN b1 nil1 capd1 l1, sv EN b2 nil2 capd2 l2], .obj [vi r0, vi r1, vi r2]]
              (cast (And.intro (ob_raw (P := pg) (A := an) (vals := [xi r0, xi 0]) (H := [.obj [sv EN b0 nil0 capd0 l0, sv EN b1 nil1 capd1 l1, sv EN b2 nil2 capd2 l2], .obj [vi r0, vi r1, vi r2]]) (op := .binOp .gtr 3 (.tmp 0) (.tmp 1) 3) (ty := 0) (r := xb (decide ((r0 : Int) > 0))) (v := xb false) (by kernel_rfl) (congrArg (fun z => xb z) (decide_eq_false (by omega)))) trivial) (by kernel_rfl)) (by kernel_rfl) ?_
            refine Wp.condF (by kernel_rfl) ?_
            refine Wp.skip ?_
            refine Wp.region [] [(2, .y (.one (.ptr 0 0))), (3, .y (.one (.ptr 1 0))), (18, xi 1)] [.obj [sv EN b0 nil0 capd0 l0, sv EN b1 nil1 capd1 l1, sv EN b2 nil2 capd2 l2], .obj [vi r0, vi r1, vi r2]]
              (cast trivial (by kernel_rfl)) (by kernel_rfl) ?_
            refine ⟨[(2, .y (.one (.ptr 0 0))), (3, .y (.one (.ptr 1 0))), (18, xi 1)], [.obj [sv EN b0 nil0 capd0 l0, sv EN b1 nil1 capd1 l1, sv EN b2 nil2 capd2 l2], .obj [vi r0, vi r1, vi r2]], by kernel_rfl, ?_⟩
            refine WpL.step ?_
            refine Wp.regionSeq [] [(2, .y (.one (.ptr 0 0))), (3, .y (.one (.ptr 1 0))), (18, xi 1), (19, xb true)] [.obj [sv EN b0 nil0 capd0 l0, sv EN b1 nil1 capd1 l1, sv EN b2 nil2 capd2 l2], .obj [vi r0, vi r1, vi r2]]
              (cast trivial (by kernel_rfl)) (by kernel_rfl) ?_
            refine Wp.seq ?_
            refine Wp.condT (by kernel_rfl) ?_
            refine Wp.skip ?_
            refine Wp.seq ?_
            refine Wp.block ?_
            refine Wp.regionSeq [] [(2, .y (.one (.ptr 0 0))), (3, .y (.one (.ptr 1 0))), (9, xi 1), (18, xi 1)] [.obj [sv EN b0 nil0 capd0 l0, sv EN b1 nil1 capd1 l1, sv EN b2 nil2 capd2 l2], .obj [vi r0, vi r1, vi r2]]
              (cast trivial (by kernel_rfl)) (by kernel_rfl) ?_
            have hhz9 := half_is (l1)
            by_cases c11 : (r1 : Int) < ((half l1))
            ·
              refine Wp.regionSeq [(3, xi ((half l1)), [.obj [sv EN b0 nil0 capd0 l0, sv EN b1 nil1 capd1 l1, sv EN b2 nil2 capd2 l2], .obj [vi r0, vi r1, vi r2]]), (7, xi r1, [.obj [sv EN b0 nil0 capd0 l0, sv EN b1 nil1 capd1 l1, sv EN b2 nil2 capd2 l2], .obj [vi r0, vi r1, vi r2]])] [(2, .y (.one (.ptr 0 0))), (3, .y (.one (.ptr 1 0))), (9, xi 1), (10, xi r1), (18, xi 1)] [.obj [sv EN b0 nil0 capd0 l0, sv EN b1 nil1 capd1 l1, sv EN b2 nil2 capd2 l2], .obj [vi r0, vi r1, vi r2]]
                (cast (And.intro (ob_pure (P := pg) (A := an) (H := [.obj [sv EN b0 nil0 capd0 l0, sv EN b1 nil1 capd1 l1, sv EN b2 nil2 capd2 l2], .obj [vi r0, vi r1, vi r2]]) (g := 7) (vals := [.y (.one (sv EN b1 nil1 capd1 l1))]) (xs0 := [.one (sv EN b1 nil1 capd1 l1)]) (xs1 := [.one (sv EN b1 nil1 capd1 l1)]) (res := [.one (vi ((half l1)))]) (ats := #[]) (ty := 0) (v := xi ((half l1))) [.tmp 0] (by kernel_rfl) (by kernel_rfl) (by kernel_rfl) (fn7 _ _ _ l1 (by omega)) (by kernel_rfl)) (And.intro (ob_raw (P := pg) (A := an) (vals := [xi ((half l1)), xi r1]) (H := [.obj [sv EN b0 nil0 capd0 l0, sv EN b1 nil1 capd1 l1, sv EN b2 nil2 capd2 l2], .obj [vi r0, vi r1, vi r2]]) (op := .call { callee := .builtin .min, args := #[.tmp 0, .tmp 1], argTypes := #[3, 3] }) (ty := 0) (r := xi (if (r1 : Int) < ((half l1)) then r1 else ((half l1)))) (v := xi r1) (by kernel_rfl) (congrArg (fun z => xi z) (if_pos (by omega)))) trivial)) (by kernel_rfl)) (by kernel_rfl) ?_
              by_cases c13 : (0 : Int) < r1
              ·
                refine Wp.regionSeq [(1, xb true, [.obj [sv EN b0 nil0 capd0 l0, sv EN b1 nil1 capd1 l1, sv EN b2 nil2 capd2 l2], .obj [vi r0, vi r1, vi r2]])] [(2, .y (.one (.ptr 0 0))), (3, .y (.one (.ptr 1 0))), (9, xi 1), (10, xi r1), (18, xi 1), (30, xb true)] [.obj [sv EN b0 nil0 capd0 l0, sv EN b1 nil1 capd1 l1, sv EN b2 nil2 capd2 l2], .obj [vi r0, vi r1, vi r2]]
                  (cast (And.intro (ob_raw (P := pg) (A := an) (vals := [xi r1, xi 0]) (H := [.obj [sv EN b0 nil0 capd0 l0, sv EN b1 nil1 capd1 l1, sv EN b2 nil2 capd2 l2], .obj [vi r0, vi r1, vi r2]]) (op := .binOp .gtr 3 (.tmp 0) (.tmp 1) 3) (ty := 0) (r := xb (decide ((r1 : Int) > 0))) (v := xb true) (by kernel_rfl) (congrArg (fun z => xb z) (decide_eq_true (by omega)))) trivial) (by kernel_rfl)) (by kernel_rfl) ?_
                refine Wp.condT (by kernel_rfl) ?_
                refine Wp.regionSeq [] [(4, xi 1), (5, xi r1), (6, xi 0)] [.obj [sv EN b0 nil0 capd0 l0, sv EN b1 nil1 capd1 l1, sv EN b2 nil2 capd2 l2], .obj [vi r0, vi r1, vi r2]]
                  (cast trivial (by kernel_rfl)) (by kernel_rfl) ?_
                refine Wp.ret ?_
                exact ⟨Or.inr rfl, [.one (vi 1), .one (vi r1), .one (vi 0)], by kernel_rfl, (by have hp : plan (half l0) (half l1) (half l2) r0 r1 r2 = (1, r1, 0) := by { unfold plan pick; repeat' first | rw [if_pos (by omega)] | rw [if_neg (by omega)] }; rw [hp]; rfl)⟩
              ·
                refine Wp.regionSeq [(1, xb false, [.obj [sv EN b0 nil0 capd0 l0, sv EN b1 nil1 capd1 l1, sv EN b2 nil2 capd2 l2], .obj [vi r0, vi r1, vi r2]])] [(2, .y (.one (.ptr 0 0))), (3, .y (.one (.ptr 1 0))), (9, xi 1), (10, xi r1), (18, xi 1), (30, xb false)] [.obj [sv EN b0 nil0 capd0 l0, sv EN b1 nil1 capd1 l1, sv EN b2 nil2 capd2 l2], .obj [vi r0, vi r1, vi r2]]
                  (cast (And.intro (ob_raw (P := pg) (A := an) (vals := [xi r1, xi 0]) (H := [.obj [sv EN b0 nil0 capd0 l0, sv EN b1 nil1 capd1 l1, sv EN b2 nil2 capd2 l2], .obj [vi r0, vi r1, vi r2]]) (op := .binOp .gtr 3 (.tmp 0) (.tmp 1) 3) (ty := 0) (r := xb (decide ((r1 : Int) > 0))) (v := xb false) (by kernel_rfl) (congrArg (fun z => xb z) (decide_eq_false (by omega)))) trivial) (by kernel_rfl)) (by kernel_rfl) ?_
                refine Wp.condF (by kernel_rfl) ?_
                refine Wp.skip ?_
                refine Wp.region [] [(2, .y (.one (.ptr 0 0))), (3, .y (.one (.ptr 1 0))), (18, xi 2)] [.obj [sv EN b0 nil0 capd0 l0, sv EN b1 nil1 capd1 l1, sv EN b2 nil2 capd2 l2], .obj [vi r0, vi r1, vi r2]]
                  (cast trivial (by kernel_rfl)) (by kernel_rfl) ?_
                refine ⟨[(2, .y (.one (.ptr 0 0))), (3, .y (.one (.ptr 1 0))), (18, xi 2)], [.obj [sv EN b0 nil0 capd0 l0, sv EN b1 nil1 capd1 l1, sv EN b2 nil2 capd2 l2], .obj [vi r0, vi r1, vi r2]], by kernel_rfl, ?_⟩
                refine WpL.step ?_
                refine Wp.regionSeq [] [(2, .y (.one (.ptr 0 0))), (3, .y (.one (.ptr 1 0))), (18, xi 2), (19, xb true)] [.obj [sv EN b0 nil0 capd0 l0, sv EN b1 nil1 capd1 l1, sv EN b2 nil2 capd2 l2], .obj [vi r0, vi r1, vi r2]]
                  (cast trivial (by kernel_rfl)) (by kernel_rfl) ?_
                refine Wp.seq ?_
                refine Wp.condT (by kernel_rfl) ?_
                refine Wp.skip ?_
                refine Wp.seq ?_
                refine Wp.block ?_
                refine Wp.regionSeq [] [(2, .y (.one (.ptr 0 0))), (3, .y (.one (.ptr 1 0))), (9, xi 2), (18, xi 2)] [.obj [sv EN b0 nil0 capd0 l0, sv EN b1 nil1 capd1 l1, sv EN b2 nil2 capd2 l2], .obj [vi r0, vi r1, vi r2]]
                  (cast trivial (by kernel_rfl)) (by kernel_rfl) ?_
                have hhz14 := half_is (l2)
                by_cases c16 : (r2 : Int) < ((half l2))
                ·
                  refine Wp.regionSeq [(3, xi ((half l2)), [.obj [sv EN b0 nil0 capd0 l0, sv EN b1 nil1 capd1 l1, sv EN b2 nil2 capd2 l2], .obj [vi r0, vi r1, vi r2]]), (7, xi r2, [.obj [sv EN b0 nil0 capd0 l0, sv EN b1 nil1 capd1 l1, sv EN b2 nil2 capd2 l2], .obj [vi r0, vi r1, vi r2]])] [(2, .y (.one (.ptr 0 0))), (3, .y (.one (.ptr 1 0))), (9, xi 2), (10, xi r2), (18, xi 2)] [.obj [sv EN b0 nil0 capd0 l0, sv EN b1 nil1 capd1 l1, sv EN b2 nil2 capd2 l2], .obj [vi r0, vi r1, vi r2]]
                    (cast (And.intro (ob_pure (P := pg) (A := an) (H := [.obj [sv EN b0 nil0 capd0 l0, sv EN b1 nil1 capd1 l1, sv EN b2 nil2 capd2 l2], .obj [vi r0, vi r1, vi r2]]) (g := 7) (vals := [.y (.one (sv EN b2 nil2 capd2 l2))]) (xs0 := [.one (sv EN b2 nil2 capd2 l2)]) (xs1 := [.one (sv EN b2 nil2 capd2 l2)]) (res := [.one (vi ((half l2)))]) (ats := #[]) (ty := 0) (v := xi ((half l2))) [.tmp 0] (by kernel_rfl) (by kernel_rfl) (by kernel_rfl) (fn7 _ _ _ l2 (by omega)) (by kernel_rfl)) (And.intro (ob_raw (P := pg) (A := an) (vals := [xi ((half l2)), xi r2]) (H := [.obj [sv EN b0 nil0 capd0 l0, sv EN b1 nil1 capd1 l1, sv EN b2 nil2 capd2 l2], .obj [vi r0, vi r1, vi r2]]) (op := .call { callee := .builtin .min, args := #[.tmp 0, .tmp 1], argTypes := #[3, 3] }) (ty := 0) (r := xi (if (r2 : Int) < ((half l2)) then r2 else ((half l2)))) (v := xi r2) (by kernel_rfl) (congrArg (fun z => xi z) (if_pos (by omega)))) trivial)) (by kernel_rfl)) (by kernel_rfl) ?_
                  by_cases c18 : (0 : Int) < r2
                  ·
                    refine Wp.regionSeq [(1, xb true, [.obj [sv EN b0 nil0 capd0 l0, sv EN b1 nil1 capd1 l1, sv EN b2 nil2 capd2 l2], .obj [vi r0, vi r1, vi r2]])] [(2, .y (.one (.ptr 0 0))), (3, .y (.one (.ptr 1 0))), (9, xi 2), (10, xi r2), (18, xi 2), (30, xb true)] [.obj [sv EN b0 nil0 capd0 l0, sv EN b1 nil1 capd1 l1, sv EN b2 nil2 capd2 l2], .obj [vi r0, vi r1, vi r2]]
                      (cast (And.intro (ob_raw (P := pg) (A := an) (vals := [xi r2, xi 0]) (H := [.obj [sv EN b0 nil0 capd0 l0, sv EN b1 nil1 capd1 l1, sv EN b2 nil2 capd2 l2], .obj [vi r0, vi r1, vi r2]]) (op := .binOp .gtr 3 (.tmp 0) (.tmp 1) 3) (ty := 0) (r := xb (decide ((r2 : Int) > 0))) (v := xb true) (by kernel_rfl) (congrArg (fun z => xb z) (decide_eq_true (by omega)))) trivial) (by kernel_rfl)) (by kernel_rfl) ?_
                    refine Wp.condT (by kernel_rfl) ?_
                    refine Wp.regionSeq [] [(4, xi 2), (5, xi r2), (6, xi 0)] [.obj [sv EN b0 nil0 capd0 l0, sv EN b1 nil1 capd1 l1, sv EN b2 nil2 capd2 l2], .obj [vi r0, vi r1, vi r2]]
                      (cast trivial (by kernel_rfl)) (by kernel_rfl) ?_
                    refine Wp.ret ?_
                    exact ⟨Or.inr rfl, [.one (vi 2), .one (vi r2), .one (vi 0)], by kernel_rfl, (by have hp : plan (half l0) (half l1) (half l2) r0 r1 r2 = (2, r2, 0) := by { unfold plan pick; repeat' first | rw [if_pos (by omega)] | rw [if_neg (by omega)] }; rw [hp]; rfl)⟩
                  ·
                    refine Wp.regionSeq [(1, xb false, [.obj [sv EN b0 nil0 capd0 l0, sv EN b1 nil1 capd1 l1, sv EN b2 nil2 capd2 l2], .obj [vi r0, vi r1, vi r2]])] [(2, .y (.one (.ptr 0 0))), (3, .y (.one (.ptr 1 0))), (9, xi 2), (10, xi r2), (18, xi 2), (30, xb false)] [.obj [sv EN b0 nil0 capd0 l0, sv EN b1 nil1 capd1 l1, sv EN b2 nil2 capd2 l2], .obj [vi r0, vi r1, vi r2]]
                      (cast (And.intro (ob_raw (P := pg) (A := an) (vals := [xi r2, xi 0]) (H := [.obj [sv EN b0 nil0 capd0 l0, sv EN b1 nil1 capd1 l1, sv EN b2 nil2 capd2 l2], .obj [vi r0, vi r1, vi r2]]) (op := .binOp .gtr 3 (.tmp 0) (.tmp 1) 3) (ty := 0) (r := xb (decide ((r2 : Int) > 0))) (v := xb false) (by kernel_rfl) (congrArg (fun z => xb z) (decide_eq_false (by omega)))) trivial) (by kernel_rfl)) (by kernel_rfl) ?_
                    refine Wp.condF (by kernel_rfl) ?_
                    refine Wp.skip ?_
                    refine Wp.region [] [(2, .y (.one (.ptr 0 0))), (3, .y (.one (.ptr 1 0))), (18, xi 3)] [.obj [sv EN b0 nil0 capd0 l0, sv EN b1 nil1 capd1 l1, sv EN b2 nil2 capd2 l2], .obj [vi r0, vi r1, vi r2]]
                      (cast trivial (by kernel_rfl)) (by kernel_rfl) ?_
                    refine ⟨[(2, .y (.one (.ptr 0 0))), (3, .y (.one (.ptr 1 0))), (18, xi 3)], [.obj [sv EN b0 nil0 capd0 l0, sv EN b1 nil1 capd1 l1, sv EN b2 nil2 capd2 l2], .obj [vi r0, vi r1, vi r2]], by kernel_rfl, ?_⟩
                    refine WpL.step ?_
                    refine Wp.regionSeq [] [(2, .y (.one (.ptr 0 0))), (3, .y (.one (.ptr 1 0))), (18, xi 3), (19, xb false)] [.obj [sv EN b0 nil0 capd0 l0, sv EN b1 nil1 capd1 l1, sv EN b2 nil2 capd2 l2], .obj [vi r0, vi r1, vi r2]]
                      (cast trivial (by kernel_rfl)) (by kernel_rfl) ?_
                    refine Wp.seq ?_
                    refine Wp.condF (by kernel_rfl) ?_
                    refine Wp.exit ?_
                    refine Eq.mpr (if_pos rfl) ?_
                    refine Wp.regionSeq [] [(4, xi 0), (5, xi 0), (6, xi 3)] [.obj [sv EN b0 nil0 capd0 l0, sv EN b1 nil1 capd1 l1, sv EN b2 nil2 capd2 l2], .obj [vi r0, vi r1, vi r2]]
                      (cast trivial (by kernel_rfl)) (by kernel_rfl) ?_
                    refine Wp.ret ?_
                    exact ⟨Or.inr rfl, [.one (vi 0), .one (vi 0), .one (vi 3)], by kernel_rfl, (by have hp : plan (half l0) (half l1) (half l2) r0 r1 r2 = (0, 0, 3) := by { unfold plan pick; repeat' first | rw [if_pos (by omega)] | rw [if_neg (by omega)] }; rw [hp]; rfl)⟩
                ·
                  refine Wp.regionSeq [(3, xi ((half l2)), [.obj [sv EN b0 nil0 capd0 l0, sv EN b1 nil1 capd1 l1, sv EN b2 nil2 capd2 l2], .obj [vi r0, vi r1, vi r2]]), (7, xi ((half l2)), [.obj [sv EN b0 nil0 capd0 l0, sv EN b1 nil1 capd1 l1, sv EN b2 nil2 capd2 l2], .obj [vi r0, vi r1, vi r2]])] [(2, .y (.one (.ptr 0 0))), (3, .y (.one (.ptr 1 0))), (9, xi 2), (10, xi ((half l2))), (18, xi 2)] [.obj [sv EN b0 nil0 capd0 l0, sv EN b1 nil1 capd1 l1, sv EN b2 nil2 capd2 l2], .obj [vi r0, vi r1, vi r2]]
                    (cast (And.intro (ob_pure (P := pg) (A := an) (H := [.obj [sv EN b0 nil0 capd0 l0, sv EN b1 nil1 capd1 l1, sv EN b2 nil2 capd2 l2], .obj [vi r0, vi r1, vi r2]]) (g := 7) (vals := [.y (.one (sv EN b2 nil2 capd2 l2))]) (xs0 := [.one (sv EN b2 nil2 capd2 l2)]) (xs1 := [.one (sv EN b2 nil2 capd2 l2)]) (res := [.one (vi ((half l2)))]) (ats := #[]) (ty := 0) (v := xi ((half l2))) [.tmp 0] (by kernel_rfl) (by kernel_rfl) (by kernel_rfl) (fn7 _ _ _ l2 (by omega)) (by kernel_rfl)) (And.intro (ob_raw (P := pg) (A := an) (vals := [xi ((half l2)), xi r2]) (H := [.obj [sv EN b0 nil0 capd0 l0, sv EN b1 nil1 capd1 l1, sv EN b2 nil2 capd2 l2], .obj [vi r0, vi r1, vi r2]]) (op := .call { callee := .builtin .min, args := #[.tmp 0, .tmp 1], argTypes := #[3, 3] }) (ty := 0) (r := xi (if (r2 : Int) < ((half l2)) then r2 else ((half l2)))) (v := xi ((half l2))) (by kernel_rfl) (congrArg (fun z => xi z) (if_neg (by omega)))) trivial)) (by kernel_rfl)) (by kernel_rfl) ?_
                  by_cases c20 : (0 : Int) < ((half l2))
                  ·
                    refine Wp.regionSeq [(1, xb true, [.obj [sv EN b0 nil0 capd0 l0, sv EN b1 nil1 capd1 l1, sv EN b2 nil2 capd2 l2], .obj [vi r0, vi r1, vi r2]])] [(2, .y (.one (.ptr 0 0))), (3, .y (.one (.ptr 1 0))), (9, xi 2), (10, xi ((half l2))), (18, xi 2), (30, xb true)] [.obj [sv EN b0 nil0 capd0 l0, sv EN b1 nil1 capd1 l1, sv EN b2 nil2 capd2 l2], .obj [vi r0, vi r1, vi r2]]
                      (cast (And.intro (ob_raw (P := pg) (A := an) (vals := [xi ((half l2)), xi 0]) (H := [.obj [sv EN b0 nil0 capd0 l0, sv EN b1 nil1 capd1 l1, sv EN b2 nil2 capd2 l2], .obj [vi r0, vi r1, vi r2]]) (op := .binOp .gtr 3 (.tmp 0) (.tmp 1) 3) (ty := 0) (r := xb (decide ((((half l2)) : Int) > 0))) (v := xb true) (by kernel_rfl) (congrArg (fun z => xb z) (decide_eq_true (by omega)))) trivial) (by kernel_rfl)) (by kernel_rfl) ?_
                    refine Wp.condT (by kernel_rfl) ?_
                    refine Wp.regionSeq [] [(4, xi 2), (5, xi ((half l2))), (6, xi 0)] [.obj [sv EN b0 nil0 capd0 l0, sv EN b1 nil1 capd1 l1, sv EN b2 nil2 capd2 l2], .obj [vi r0, vi r1, vi r2]]
                      (cast trivial (by kernel_rfl)) (by kernel_rfl) ?_
                    refine Wp.ret ?_
                    exact ⟨Or.inr rfl, [.one (vi 2), .one (vi ((half l2))), .one (vi 0)], by kernel_rfl, (by have hp : plan (half l0) (half l1) (half l2) r0 r1 r2 = (2, ((half l2)), 0) := by { unfold plan pick; repeat' first | rw [if_pos (by omega)] | rw [if_neg (by omega)] }; rw [hp]; rfl)⟩
                  ·
                    refine Wp.regionSeq [(1, xb false, [.obj [sv EN b0 nil0 capd0 l0, sv EN b1 nil1 capd1 l1, sv EN b2 nil2 capd2 l2], .obj [vi r0, vi r1, vi r2]])] [(2, .y (.one (.ptr 0 0))), (3, .y (.one (.ptr 1 0))), (9, xi 2), (10, xi ((half l2))), (18, xi 2), (30, xb false)] [.obj [sv EN b0 nil0 capd0 l0, sv EN b1 nil1 capd1 l1, sv EN b2 nil2 capd2 l2], .obj [vi r0, vi r1, vi r2]]
                      (cast (And.intro (ob_raw (P := pg) (A := an) (vals := [xi ((half l2)), xi 0]) (H := [.obj [sv EN b0 nil0 capd0 l0, sv EN b1 nil1 capd1 l1, sv EN b2 nil2 capd2 l2], .obj [vi r0, vi r1, vi r2]]) (op := .binOp .gtr 3 (.tmp 0) (.tmp 1) 3) (ty := 0) (r := xb (decide ((((half l2)) : Int) > 0))) (v := xb false) (by kernel_rfl) (congrArg (fun z => xb z) (decide_eq_false (by omega)))) trivial) (by kernel_rfl)) (by kernel_rfl) ?_
                    refine Wp.condF (by kernel_rfl) ?_
                    refine Wp.skip ?_
                    refine Wp.region [] [(2, .y (.one (.ptr 0 0))), (3, .y (.one (.ptr 1 0))), (18, xi 3)] [.obj [sv EN b0 nil0 capd0 l0, sv EN b1 nil1 capd1 l1, sv EN b2 nil2 capd2 l2], .obj [vi r0, vi r1, vi r2]]
                      (cast trivial (by kernel_rfl)) (by kernel_rfl) ?_
                    refine ⟨[(2, .y (.one (.ptr 0 0))), (3, .y (.one (.ptr 1 0))), (18, xi 3)], [.obj [sv EN b0 nil0 capd0 l0, sv EN b1 nil1 capd1 l1, sv EN b2 nil2 capd2 l2], .obj [vi r0, vi r1, vi r2]], by kernel_rfl, ?_⟩
                    refine WpL.step ?_
                    refine Wp.regionSeq [] [(2, .y (.one (.ptr 0 0))), (3, .y (.one (.ptr 1 0))), (18, xi 3), (19, xb false)] [.obj [sv EN b0 nil0 capd0 l0, sv EN b1 nil1 capd1 l1, sv EN b2 nil2 capd2 l2], .obj [vi r0, vi r1, vi r2]]
                      (cast trivial (by kernel_rfl)) (by kernel_rfl) ?_
                    refine Wp.seq ?_
                    refine Wp.condF (by kernel_rfl) ?_
                    refine Wp.exit ?_
                    refine Eq.mpr (if_pos rfl) ?_
                    refine Wp.regionSeq [] [(4, xi 0), (5, xi 0), (6, xi 3)] [.obj [sv EN b0 nil0 capd0 l0, sv EN b1 nil1 capd1 l1, sv EN b2 nil2 capd2 l2], .obj [vi r0, vi r1, vi r2]]
                      (cast trivial (by kernel_rfl)) (by kernel_rfl) ?_
                    refine Wp.ret ?_
                    exact ⟨Or.inr rfl, [.one (vi 0), .one (vi 0), .one (vi 3)], by kernel_rfl, (by have hp : plan (half l0) (half l1) (half l2) r0 r1 r2 = (0, 0, 3) := by { unfold plan pick; repeat' first | rw [if_pos (by omega)] | rw [if_neg (by omega)] }; rw [hp]; rfl)⟩
            ·
              refine Wp.regionSeq [(3, xi ((half l1)), [.obj [sv EN b0 nil0 capd0 l0, sv EN b1 nil1 capd1 l1, sv EN b2 nil2 capd2 l2], .obj [vi r0, vi r1, vi r2]]), (7, xi ((half l1)), [.obj [sv EN b0 nil0 capd0 l0, sv EN b1 nil1 capd1 l1, sv EN b2 nil2 capd2 l2], .obj [vi r0, vi r1, vi r2]])] [(2, .y (.one (.ptr 0 0))), (3, .y (.one (.ptr 1 0))), (9, xi 1), (10, xi ((half l1))), (18, xi 1)] [.obj [sv EN b0 nil0 capd0 l0, sv EN b1 nil1 capd1 l1, sv EN b2 nil2 capd2 l2], .obj [vi r0, vi r1, vi r2]]
                (cast (And.intro (ob_pure (P := pg) (A := an) (H := [.obj [sv EN b0 nil0 capd0 l0, sv EN b1 nil1 capd1 l1, sv EN b2 nil2 capd2 l2], .obj [vi r0, vi r1, vi r2]]) (g := 7) (vals := [.y (.one (sv EN b1 nil1 capd1 l1))]) (xs0 := [.one (sv EN b1 nil1 capd1 l1)]) (xs1 := [.one (sv EN b1 nil1 capd1 l1)]) (res := [.one (vi ((half l1)))]) (ats := #[]) (ty := 0) (v := xi ((half l1))) [.tmp 0] (by kernel_rfl) (by kernel_rfl) (by kernel_rfl) (fn7 _ _ _ l1 (by omega)) (by kernel_rfl)) (And.intro (ob_raw (P := pg) (A := an) (vals := [xi ((half l1)), xi r1]) (H := [.obj [sv EN b0 nil0 capd0 l0, sv EN b1 nil1 capd1 l1, sv EN b2 nil2 capd2 l2], .obj [vi r0, vi r1, vi r2]]) (op := .call { callee := .builtin .min, args := #[.tmp 0, .tmp 1], argTypes := #[3, 3] }) (ty := 0) (r := xi (if (r1 : Int) < ((half l1)) then r1 else ((half l1)))) (v := xi ((half l1))) (by kernel_rfl) (congrArg (fun z => xi z) (if_neg (by omega)))) trivial)) (by kernel_rfl)) (by kernel_rfl) ?_
              by_cases c22 : (0 : Int) < ((half l1))
              ·
                refine Wp.regionSeq [(1, xb true, [.obj [sv EN b0 nil0 capd0 l0, sv EN b1 nil1 capd1 l1, sv EN b2 nil2 capd2 l2], .obj [vi r0, vi r1, vi r2]])] [(2, .y (.one (.ptr 0 0))), (3, .y (.one (.ptr 1 0))), (9, xi 1), (10, xi ((half l1))), (18, xi 1), (30, xb true)] [.obj [sv EN b0 nil0 capd0 l0, sv EN b1 nil1 capd1 l1, sv EN b2 nil2 capd2 l2], .obj [vi r0, vi r1, vi r2]]
                  (cast (And.intro (ob_raw (P := pg) (A := an) (vals := [xi ((half l1)), xi 0]) (H := [.obj [sv EN b0 nil0 capd0 l0, sv EN b1 nil1 capd1 l1, sv EN b2 nil2 capd2 l2], .obj [vi r0, vi r1, vi r2]]) (op := .binOp .gtr 3 (.tmp 0) (.tmp 1) 3) (ty := 0) (r := xb (decide ((((half l1)) : Int) > 0))) (v := xb true) (by kernel_rfl) (congrArg (fun z => xb z) (decide_eq_true (by omega)))) trivial) (by kernel_rfl)) (by kernel_rfl) ?_
                refine Wp.condT (by kernel_rfl) ?_
                refine Wp.regionSeq [] [(4, xi 1), (5, xi ((half l1))), (6, xi 0)] [.obj [sv EN b0 nil0 capd0 l0, sv EN b1 nil1 capd1 l1, sv EN b2 nil2 capd2 l2], .obj [vi r0, vi r1, vi r2]]
                  (cast trivial (by kernel_rfl)) (by kernel_rfl) ?_
                refine Wp.ret ?_
                exact ⟨Or.inr rfl, [.one (vi 1), .one (vi ((half l1))), .one (vi 0)], by kernel_rfl, (by have hp : plan (half l0) (half l1) (half l2) r0 r1 r2 = (1, ((half l1)), 0) := by { unfold plan pick; repeat' first | rw [if_pos (by omega)] | rw [if_neg (by omega)] }; rw [hp]; rfl)⟩
              ·
                refine Wp.regionSeq [(1, xb false, [.obj [sv EN b0 nil0 capd0 l0, sv EN b1 nil1 capd1 l1, sv EN b2 nil2 capd2 l2], .obj [vi r0, vi r1, vi r2]])] [(2, .y (.one (.ptr 0 0))), (3, .y (.one (.ptr 1 0))), (9, xi 1), (10, xi ((half l1))), (18, xi 1), (30, xb false)] [.obj [sv EN b0 nil0 capd0 l0, sv EN b1 nil1 capd1 l1, sv EN b2 nil2 capd2 l2], .obj [vi r0, vi r1, vi r2]]
                  (cast (And.intro (ob_raw (P := pg) (A := an) (vals := [xi ((half l1)), xi 0]) (H := [.obj [sv EN b0 nil0 capd0 l0, sv EN b1 nil1 capd1 l1, sv EN b2 nil2 capd2 l2], .obj [vi r0, vi r1, vi r2]]) (op := .binOp .gtr 3 (.tmp 0) (.tmp 1) 3) (ty := 0) (r := xb (decide ((((half l1)) : Int) > 0))) (v := xb false) (by kernel_rfl) (congrArg (fun z => xb z) (decide_eq_false (by omega)))) trivial) (by kernel_rfl)) (by kernel_rfl) ?_
                refine Wp.condF (by kernel_rfl) ?_
                refine Wp.skip ?_
                refine Wp.region [] [(2, .y (.one (.ptr 0 0))), (3, .y (.one (.ptr 1 0))), (18, xi 2)] [.obj [sv EN b0 nil0 capd0 l0, sv EN b1 nil1 capd1 l1, sv EN b2 nil2 capd2 l2], .obj [vi r0, vi r1, vi r2]]
                  (cast trivial (by kernel_rfl)) (by kernel_rfl) ?_
                refine ⟨[(2, .y (.one (.ptr 0 0))), (3, .y (.one (.ptr 1 0))), (18, xi 2)], [.obj [sv EN b0 nil0 capd0 l0, sv EN b1 nil1 capd1 l1, sv EN b2 nil2 capd2 l2], .obj [vi r0, vi r1, vi r2]], by kernel_rfl, ?_⟩
                refine WpL.step ?_
                refine Wp.regionSeq [] [(2, .y (.one (.ptr 0 0))), (3, .y (.one (.ptr 1 0))), (18, xi 2), (19, xb true)] [.obj [sv EN b0 nil0 capd0 l0, sv EN b1 nil1 capd1 l1, sv EN b2 nil2 capd2 l2], .obj [vi r0, vi r1, vi r2]]
                  (cast trivial (by kernel_rfl)) (by kernel_rfl) ?_
                refine Wp.seq ?_
                refine Wp.condT (by kernel_rfl) ?_
                refine Wp.skip ?_
                refine Wp.seq ?_
                refine Wp.block ?_
                refine Wp.regionSeq [] [(2, .y (.one (.ptr 0 0))), (3, .y (.one (.ptr 1 0))), (9, xi 2), (18, xi 2)] [.obj [sv EN b0 nil0 capd0 l0, sv EN b1 nil1 capd1 l1, sv EN b2 nil2 capd2 l2], .obj [vi r0, vi r1, vi r2]]
                  (cast trivial (by kernel_rfl)) (by kernel_rfl) ?_
                have hhz23 := half_is (l2)
                by_cases c25 : (r2 : Int) < ((half l2))
                ·
                  refine Wp.regionSeq [(3, xi ((half l2)), [.obj [sv EN b0 nil0 capd0 l0, sv EN b1 nil1 capd1 l1, sv EN b2 nil2 capd2 l2], .obj [vi r0, vi r1, vi r2]]), (7, xi r2, [.obj [sv EN b0 nil0 capd0 l0, sv EN b1 nil1 capd1 l1, sv EN b2 nil2 capd2 l2], .obj [vi r0, vi r1, vi r2]])] [(2, .y (.one (.ptr 0 0))), (3, .y (.one (.ptr 1 0))), (9, xi 2), (10, xi r2), (18, xi 2)] [.obj [sv EN b0 nil0 capd0 l0, sv EN b1 nil1 capd1 l1, sv EN b2 nil2 capd2 l2], .obj [vi r0, vi r1, vi r2]]
                    (cast (And.intro (ob_pure (P := pg) (A := an) (H := [.obj [sv EN b0 nil0 capd0 l0, sv EN b1 nil1 capd1 l1, sv EN b2 nil2 capd2 l2], .obj [vi r0, vi r1, vi r2]]) (g := 7) (vals := [.y (.one (sv EN b2 nil2 capd2 l2))]) (xs0 := [.one (sv EN b2 nil2 capd2 l2)]) (xs1 := [.one (sv EN b2 nil2 capd2 l2)]) (res := [.one (vi ((half l2)))]) (ats := #[]) (ty := 0) (v := xi ((half l2))) [.tmp 0] (by kernel_rfl) (by kernel_rfl) (by kernel_rfl) (fn7 _ _ _ l2 (by omega)) (by kernel_rfl)) (And.intro (ob_raw (P := pg) (A := an) (vals := [xi ((half l2)), xi r2]) (H := [.obj [sv EN b0 nil0 capd0 l0, sv EN b1 nil1 capd1 l1, sv EN b2 nil2 capd2 l2], .obj [vi r0, vi r1, vi r2]]) (op := .call { callee := .builtin .min, args := #[.tmp 0, .tmp 1], argTypes := #[3, 3] }) (ty := 0) (r := xi (if (r2 : Int) < ((half l2)) then r2 else ((half l2)))) (v := xi r2) (by kernel_rfl) (congrArg (fun z => xi z) (if_pos (by omega)))) trivial)) (by kernel_rfl)) (by kernel_rfl) ?_
                  by_cases c27 : (0 : Int) < r2
                  ·
                    refine Wp.regionSeq [(1, xb true, [.obj [sv EN b0 nil0 capd0 l0, sv EN b1 nil1 capd1 l1, sv EN b2 nil2 capd2 l2], .obj [vi r0, vi r1, vi r2]])] [(2, .y (.one (.ptr 0 0))), (3, .y (.one (.ptr 1 0))), (9, xi 2), (10, xi r2), (18, xi 2), (30, xb true)] [.obj [sv EN b0 nil0 capd0 l0, sv EN b1 nil1 capd1 l1, sv EN b2 nil2 capd2 l2], .obj [vi r0, vi r1, vi r2]]
                      (cast (And.intro (ob_raw (P := pg) (A := an) (vals := [xi r2, xi 0]) (H := [.obj [sv EN b0 nil0 capd0 l0, sv EN b1 nil1 capd1 l1, sv EN b2 nil2 capd2 l2], .obj [vi r0, vi r1, vi r2]]) (op := .binOp .gtr 3 (.tmp 0) (.tmp 1) 3) (ty := 0) (r := xb (decide ((r2 : Int) > 0))) (v := xb true) (by kernel_rfl) (congrArg (fun z => xb z) (decide_eq_true (by omega)))) trivial) (by kernel_rfl)) (by kernel_rfl) ?_
                    refine Wp.condT (by kernel_rfl) ?_
                    refine Wp.regionSeq [] [(4, xi 2), (5, xi r2), (6, xi 0)] [.obj [sv EN b0 nil0 capd0 l0, sv EN b1 nil1 capd1 l1, sv EN b2 nil2 capd2 l2], .obj [vi r0, vi r1, vi r2]]
                      (cast trivial (by kernel_rfl)) (by kernel_rfl) ?_
                    refine Wp.ret ?_
                    exact ⟨Or.inr rfl, [.one (vi 2), .one (vi r2), .one (vi 0)], by kernel_rfl, (by have hp : plan (half l0) (half l1) (half l2) r0 r1 r2 = (2, r2, 0) := by { unfold plan pick; repeat' first | rw [if_pos (by omega)] | rw [if_neg (by omega)] }; rw [hp]; rfl)⟩
                  ·
                    refine Wp.regionSeq [(1, xb false, [.obj [sv EN b0 nil0 capd0 l0, sv EN b1 nil1 capd1 l1, sv EN b2 nil2 capd2 l2], .obj [vi r0, vi r1, vi r2]])] [(2, .y (.one (.ptr 0 0))), (3, .y (.one (.ptr 1 0))), (9, xi 2), (10, xi r2), (18, xi 2), (30, xb false)] [.obj [sv EN b0 nil0 capd0 l0, sv EN b1 nil1 capd1 l1, sv EN b2 nil2 capd2 l2], .obj [vi r0, vi r1, vi r2]]
                      (cast (And.intro (ob_raw (P := pg) (A := an) (vals := [xi r2, xi 0]) (H := [.obj [sv EN b0 nil0 capd0 l0, sv EN b1 nil1 capd1 l1, sv EN b2 nil2 capd2 l2], .obj [vi r0, vi r1, vi r2]]) (op := .binOp .gtr 3 (.tmp 0) (.tmp 1) 3) (ty := 0) (r := xb (decide ((r2 : Int) > 0))) (v := xb false) (by kernel_rfl) (congrArg (fun z => xb z) (decide_eq_false (by omega)))) trivial) (by kernel_rfl)) (by kernel_rfl) ?_
                    refine Wp.condF (by kernel_rfl) ?_
                    refine Wp.skip ?_
                    refine Wp.region [] [(2, .y (.one (.ptr 0 0))), (3, .y (.one (.ptr 1 0))), (18, xi 3)] [.obj [sv EN b0 nil0 capd0 l0, sv EN b1 nil1 capd1 l1, sv EN b2 nil2 capd2 l2], .obj [vi r0, vi r1, vi r2]]
                      (cast trivial (by kernel_rfl)) (by kernel_rfl) ?_
                    refine ⟨[(2, .y (.one (.ptr 0 0))), (3, .y (.one (.ptr 1 0))), (18, xi 3)], [.obj [sv EN b0 nil0 capd0 l0, sv EN b1 nil1 capd1 l1, sv EN b2 nil2 capd2 l2], .obj [vi r0, vi r1, vi r2]], by kernel_rfl, ?_⟩
                    refine WpL.step ?_
                    refine Wp.regionSeq [] [(2, .y (.one (.ptr 0 0))), (3, .y (.one (.ptr 1 0))), (18, xi 3), (19, xb false)] [.obj [sv EN b0 nil0 capd0 l0, sv EN b1 nil1 capd1 l1, sv EN b2 nil2 capd2 l2], .obj [vi r0, vi r1, vi r2]]
                      (cast trivial (by kernel_rfl)) (by kernel_rfl) ?_
                    refine Wp.seq ?_
                    refine Wp.condF (by kernel_rfl) ?_
                    refine Wp.exit ?_
                    refine Eq.mpr (if_pos rfl) ?_
                    refine Wp.regionSeq [] [(4, xi 0), (5, xi 0), (6, xi 3)] [.obj [sv EN b0 nil0 capd0 l0, sv EN b1 nil1 capd1 l1, sv EN b2 nil2 capd2 l2], .obj [vi r0, vi r1, vi r2]]
                      (cast trivial (by kernel_rfl)) (by kernel_rfl) ?_
                    refine Wp.ret ?_
                    exact ⟨Or.inr rfl, [.one (vi 0), .one (vi 0), .one (vi 3)], by kernel_rfl, (by have hp : plan (half l0) (half l1) (half l2) r0 r1 r2 = (0, 0, 3) := by { unfold plan pick; repeat' first | rw [if_pos (by omega)] | rw [if_neg (by omega)] }; rw [hp]; rfl)⟩
                ·
                  refine Wp.regionSeq [(3, xi ((half l2)), [.obj [sv EN b0 nil0 capd0 l0, sv EN b1 nil1 capd1 l1, sv EN b2 nil2 capd2 l2], .obj [vi r0, vi r1, vi r2]]), (7, xi ((half l2)), [.obj [sv EN b0 nil0 capd0 l0, sv EN b1 nil1 capd1 l1, sv EN b2 nil2 capd2 l2], .obj [vi r0, vi r1, vi r2]])] [(2, .y (.one (.ptr 0 0))), (3, .y (.one (.ptr 1 0))), (9, xi 2), (10, xi ((half l2))), (18, xi 2)] [.obj [sv EN b0 nil0 capd0 l0, sv EN b1 nil1 capd1 l1, sv EN b2 nil2 capd2 l2], .obj [vi r0, vi r1, vi r2]]
                    (cast (And.intro (ob_pure (P := pg) (A := an) (H := [.obj [sv EN b0 nil0 capd0 l0, sv EN b1 nil1 capd1 l1, sv EN b2 nil2 capd2 l2], .obj [vi r0, vi r1, vi r2]]) (g := 7) (vals := [.y (.one (sv EN b2 nil2 capd2 l2))]) (xs0 := [.one (sv EN b2 nil2 capd2 l2)]) (xs1 := [.one (sv EN b2 nil2 capd2 l2)]) (res := [.one (vi ((half l2)))]) (ats := #[]) (ty := 0) (v := xi ((half l2))) [.tmp 0] (by kernel_rfl) (by kernel_rfl) (by kernel_rfl) (fn7 _ _ _ l2 (by omega)) (by kernel_rfl)) (And.intro (ob_raw (P := pg) (A := an) (vals := [xi ((half l2)), xi r2]) (H := [.obj [sv EN b0 nil0 capd0 l0, sv EN b1 nil1 capd1 l1, sv EN b2 nil2 capd2 l2], .obj [vi r0, vi r1, vi r2]]) (op := .call { callee := .builtin .min, args := #[.tmp 0, .tmp 1], argTypes := #[3, 3] }) (ty := 0) (r := xi (if (r2 : Int) < ((half l2)) then r2 else ((half l2)))) (v := xi ((half l2))) (by kernel_rfl) (congrArg (fun z => xi z) (if_neg (by omega)))) trivial)) (by kernel_rfl)) (by kernel_rfl) ?_
                  by_cases c29 : (0 : Int) < ((half l2))
                  ·
                    refine Wp.regionSeq [(1, xb true, [.obj [sv EN b0 nil0 capd0 l0, sv EN b1 nil1 capd1 l1, sv EN b2 nil2 capd2 l2], .obj [vi r0, vi r1, vi r2]])] [(2, .y (.one (.ptr 0 0))), (3, .y (.one (.ptr 1 0))), (9, xi 2), (10, xi ((half l2))), (18, xi 2), (30, xb true)] [.obj [sv EN b0 nil0 capd0 l0, sv EN b1 nil1 capd1 l1, sv EN b2 nil2 capd2 l2], .obj [vi r0, vi r1, vi r2]]
                      (cast (And.intro (ob_raw (P := pg) (A := an) (vals := [xi ((half l2)), xi 0]) (H := [.obj [sv EN b0 nil0 capd0 l0, sv EN b1 nil1 capd1 l1, sv EN b2 nil2 capd2 l2], .obj [vi r0, vi r1, vi r2]]) (op := .binOp .gtr 3 (.tmp 0) (.tmp 1) 3) (ty := 0) (r := xb (decide ((((half l2)) : Int) > 0))) (v := xb true) (by kernel_rfl) (congrArg (fun z => xb z) (decide_eq_true (by omega)))) trivial) (by kernel_rfl)) (by kernel_rfl) ?_
                    refine Wp.condT (by kernel_rfl) ?_
                    refine Wp.regionSeq [] [(4, xi 2), (5, xi ((half l2))), (6, xi 0)] [.obj [sv EN b0 nil0 capd0 l0, sv EN b1 nil1 capd1 l1, sv EN b2 nil2 capd2 l2], .obj [vi r0, vi r1, vi r2]]
                      (cast trivial (by kernel_rfl)) (by kernel_rfl) ?_
                    refine Wp.ret ?_
                    exact ⟨Or.inr rfl, [.one (vi 2), .one (vi ((half l2))), .one (vi 0)], by kernel_rfl, (by have hp : plan (half l0) (half l1) (half l2) r0 r1 r2 = (2, ((half l2)), 0) := by { unfold plan pick; repeat' first | rw [if_pos (by omega)] | rw [if_neg (by omega)] }; rw [hp]; rfl)⟩
                  ·
                    refine Wp.regionSeq [(1, xb false, [.obj [sv EN b0 nil0 capd0 l0, sv EN b1 nil1 capd1 l1, sv EN b2 nil2 capd2 l2], .obj [vi r0, vi r1, vi r2]])] [(2, .y (.one (.ptr 0 0))), (3, .y (.one (.ptr 1 0))), (9, xi 2), (10, xi ((half l2))), (18, xi 2), (30, xb false)] [.obj [sv EN b0 nil0 capd0 l0, sv EN b1 nil1 capd1 l1, sv EN b2 nil2 capd2 l2], .obj [vi r0, vi r1, vi r2]]
                      (cast (And.intro (ob_raw (P := pg) (A := an) (vals := [xi ((half l2)), xi 0]) (H := [.obj [sv EN b0 nil0 capd0 l0, sv EN b1 nil1 capd1 l1, sv EN b2 nil2 capd2 l2], .obj [vi r0, vi r1, vi r2]]) (op := .binOp .gtr 3 (.tmp 0) (.tmp 1) 3) (ty := 0) (r := xb (decide ((((half l2)) : Int) > 0))) (v := xb false) (by kernel_rfl) (congrArg (fun z => xb z) (decide_eq_false (by omega)))) trivial) (by kernel_rfl)) (by kernel_rfl) ?_
                    refine Wp.condF (by kernel_rfl) ?_
                    refine Wp.skip ?_
                    refine Wp.region [] [(2, .y (.one (.ptr 0 0))), (3, .y (.one (.ptr 1 0))), (18, xi 3)] [.obj [sv EN b0 nil0 capd0 l0, sv EN b1 nil1 capd1 l1, sv EN b2 nil2 capd2 l2], .obj [vi r0, vi r1, vi r2]]
                      (cast trivial (by kernel_rfl)) (by kernel_rfl) ?_
                    refine ⟨[(2, .y (.one (.ptr 0 0))), (3, .y (.one (.ptr 1 0))), (18, xi 3)], [.obj [sv EN b0 nil0 capd0 l0, sv EN b1 nil1 capd1 l1, sv EN b2 nil2 capd2 l2], .obj [vi r0, vi r1, vi r2]], by kernel_rfl, ?_⟩
                    refine WpL.step ?_
                    refine Wp.regionSeq [] [(2, .y (.one (.ptr 0 0))), (3, .y (.one (.ptr 1 0))), (18, xi 3), (19, xb false)] [.obj [sv EN b0 nil0 capd0 l0, sv EN b1 nil1 capd1 l1, sv EN b2 nil2 capd2 l2], .obj [vi r0, vi r1, vi r2]]
                      (cast trivial (by kernel_rfl)) (by kernel_rfl) ?_
                    refine Wp.seq ?_
                    refine Wp.condF (by kernel_rfl) ?_
                    refine Wp.exit ?_
                    refine Eq.mpr (if_pos rfl) ?_
                    refine Wp.regionSeq [] [(4, xi 0), (5, xi 0), (6, xi 3)] [.obj [sv EN b0 nil0 capd0 l0, sv EN b1 nil1 capd1 l1, sv EN b2 nil2 capd2 l2], .obj [vi r0, vi r1, vi r2]]
                      (cast trivial (by kernel_rfl)) (by kernel_rfl) ?_
                    refine Wp.ret ?_
                    exact ⟨Or.inr rfl, [.one (vi 0), .one (vi 0), .one (vi 3)], by kernel_rfl, (by have hp : plan (half l0) (half l1) (half l2) r0 r1 r2 = (0, 0, 3) := by { unfold plan pick; repeat' first | rw [if_pos (by omega)] | rw [if_neg (by omega)] }; rw [hp]; rfl)⟩
        ·
          refine Wp.regionSeq [(3, xi ((half l0)), [.obj [sv EN b0 nil0 capd0 l0, sv EN b1 nil1 capd1 l1, sv EN b2 nil2 capd2 l2], .obj [vi r0, vi r1, vi r2]]), (7, xi ((half l0)), [.obj [sv EN b0 nil0 capd0 l0, sv EN b1 nil1 capd1 l1, sv EN b2 nil2 capd2 l2], .obj [vi r0, vi r1, vi r2]])] [(2, .y (.one (.ptr 0 0))), (3, .y (.one (.ptr 1 0))), (9, xi 0), (10, xi ((half l0))), (18, xi 0)] [.obj [sv EN b0 nil0 capd0 l0, sv EN b1 nil1 capd1 l1, sv EN b2 nil2 capd2 l2], .obj [vi r0, vi r1, vi r2]]
            (cast (And.intro (ob_pure (P := pg) (A := an) (H := [.obj [sv EN b0 nil0 capd0 l0, sv EN b1 nil1 capd1 l1, sv EN b2 nil2 capd2 l2], .obj [vi r0, vi r1, vi r2]]) (g := 7) (vals := [.y (.one (sv EN b0 nil0 capd0 l0))]) (xs0 := [.one (sv EN b0 nil0 capd0 l0)]) (xs1 := [.one (sv EN b0 nil0 capd0 l0)]) (res := [.one (vi ((half l0)))]) (ats := #[]) (ty := 0) (v := xi ((half l0))) [.tmp 0] (by kernel_rfl) (by kernel_rfl) (by kernel_rfl) (fn7 _ _ _ l0 (by omega)) (by kernel_rfl)) (And.intro (ob_raw (P := pg) (A := an) (vals := [xi ((half l0)), xi r0]) (H := [.obj [sv EN b0 nil0 capd0 l0, sv EN b1 nil1 capd1 l1, sv EN b2 nil2 capd2 l2], .obj [vi r0, vi r1, vi r2]]) (op := .call { callee := .builtin .min, args := #[.tmp 0, .tmp 1], argTypes := #[3, 3] }) (ty := 0) (r := xi (if (r0 : Int) < ((half l0)) then r0 else ((half l0)))) (v := xi ((half l0))) (by kernel_rfl) (congrArg (fun z => xi z) (if_neg (by omega)))) trivial)) (by kernel_rfl)) (by kernel_rfl) ?_
          by_cases c31 : (0 : Int) < ((half l0))
          ·
            refine Wp.regionSeq [(1, xb true, [.obj [sv EN b0 nil0 capd0 l0, sv EN b1 nil1 capd1 l1, sv EN b2 nil2 capd2 l2], .obj [vi r0, vi r1, vi r2]])] [(2, .y (.one (.ptr 0 0))), (3, .y (.one (.ptr 1 0))), (9, xi 0), (10, xi ((half l0))), (18, xi 0), (30, xb true)] [.obj [sv EN b0 nil0 capd0 l0, sv EN b1 nil1 capd1 l1, sv EN b2 nil2 capd2 l2], .obj [vi r0, vi r1, vi r2]]
              (cast (And.intro (ob_raw (P := pg) (A := an) (vals := [xi ((half l0)), xi 0]) (H := [.obj [sv EN b0 nil0 capd0 l0, sv EN b1 nil1 capd1 l1, sv EN b2 nil2 capd2 l2], .obj [vi r0, vi r1, vi r2]]) (op := .binOp .gtr 3 (.tmp 0) (.tmp 1) 3) (ty := 0) (r := xb (decide ((((half l0)) : Int) > 0))) (v := xb true) (by kernel_rfl) (congrArg (fun z => xb z) (decide_eq_true (by omega)))) trivial) (by kernel_rfl)) (by kernel_rfl) ?_
            refine Wp.condT (by kernel_rfl) ?_
            refine Wp.regionSeq [] [(4, xi 0), (5, xi ((half l0))), (6, xi 0)] [.obj [sv EN b0 nil0 capd0 l0, sv EN b1 nil1 capd1 l1, sv EN b2 nil2 capd2 l2], .obj [vi r0, vi r1, vi r2]]
              (cast trivial (by kernel_rfl)) (by kernel_rfl) ?_
            refine Wp.ret ?_
            exact ⟨Or.inr rfl, [.one (vi 0), .one (vi ((half l0))), .one (vi 0)], by kernel_rfl, (by have hp : plan (half l0) (half l1) (half l2) r0 r1 r2 = (0, ((half l0)), 0) := by { unfold plan pick; repeat' first | rw [if_pos (by omega)] | rw [if_neg (by omega)] }; rw [hp]; rfl)⟩
          ·
            refine Wp.regionSeq [(1, xb false, [.obj [sv EN b0 nil0 capd0 l0, sv EN b1 nil1 capd1 l1, sv EN b2 nil2 capd2 l2], .obj [vi r0, vi r1, vi r2]])] [(2, .y (.one (.ptr 0 0))), (3, .y (.one (.ptr 1 0))), (9, xi 0), (10, xi ((half l0))), (18, xi 0), (30, xb false)] [.obj [sv EN b0 nil0 capd0 l0, sv EN b1 nil1 capd1 l1, sv EN b2 nil2 capd2 l2], .obj [vi r0, vi r1, vi r2]]
              (cast (And.intro (ob_raw (P := pg) (A := an) (vals := [xi ((half l0)), xi 0]) (H := [.obj [sv EN b0 nil0 capd0 l0, sv EN b1 nil1 capd1 l1, sv EN b2 nil2 capd2 l2], .obj [vi r0, vi r1, vi r2]]) (op := .binOp .gtr 3 (.tmp 0) (.tmp 1) 3) (ty := 0) (r := xb (decide ((((half l0)) : Int) > 0))) (v := xb false) (by kernel_rfl) (congrArg (fun z => xb z) (decide_eq_false (by omega)))) trivial) (by kernel_rfl)) (by kernel_rfl) ?_
            refine Wp.condF (by kernel_rfl) ?_
            refine Wp.skip ?_
            refine Wp.region [] [(2, .y (.one (.ptr 0 0))), (3, .y (.one (.ptr 1 0))), (18, xi 1)] [.obj [sv EN b0 nil0 capd0 l0, sv EN b1 nil1 capd1 l1, sv EN b2 nil2 capd2 l2], .obj [vi r0, vi r1, vi r2]]
              (cast trivial (by kernel_rfl)) (by kernel_rfl) ?_
            refine ⟨[(2, .y (.one (.ptr 0 0))), (3, .y (.one (.ptr 1 0))), (18, xi 1)], [.obj [sv EN b0 nil0 capd0 l0, sv EN b1 nil1 capd1 l1, sv EN b2 nil2 capd2 l2], .obj [vi r0, vi r1, vi r2]], by kernel_rfl, ?_⟩
            refine WpL.step ?_
            refine Wp.regionSeq [] [(2, .y (.one (.ptr 0 0))), (3, .y (.one (.ptr 1 0))), (18, xi 1), (19, xb true)] [.obj [sv EN b0 nil0 capd0 l0, sv EN b1 nil1 capd1 l1, sv EN b2 nil2 capd2 l2], .obj [vi r0, vi r1, vi r2]]
              (cast trivial (by kernel_rfl)) (by kernel_rfl) ?_
            refine Wp.seq ?_
            refine Wp.condT (by kernel_rfl) ?_
            refine Wp.skip ?_
            refine Wp.seq ?_
            refine Wp.block ?_
            refine Wp.regionSeq [] [(2, .y (.one (.ptr 0 0))), (3, .y (.one (.ptr 1 0))), (9, xi 1), (18, xi 1)] [.obj [sv EN b0 nil0 capd0 l0, sv EN b1 nil1 capd1 l1, sv EN b2 nil2 capd2 l2], .obj [vi r0, vi r1, vi r2]]
              (cast trivial (by kernel_rfl)) (by kernel_rfl) ?_
            have hhz32 := half_is (l1)
            by_cases c34 : (r1 : Int) < ((half l1))
            ·
              refine Wp.regionSeq [(3, xi ((half l1)), [.obj [sv EN b0 nil0 capd0 l0, sv EN b1 nil1 capd1 l1, sv EN b2 nil2 capd2 l2], .obj [vi r0, vi r1, vi r2]]), (7, xi r1, [.obj [sv EN b0 nil0 capd0 l0, sv EN b1 nil1 capd1 l1, sv EN b2 nil2 capd2 l2], .obj [vi r0, vi r1, vi r2]])] [(2, .y (.one (.ptr 0 0))), (3, .y (.one (.ptr 1 0))), (9, xi 1), (10, xi r1), (18, xi 1)] [.obj [sv EN b0 nil0 capd0 l0, sv EN b1 nil1 capd1 l1, sv EN b2 nil2 capd2 l2], .obj [vi r0, vi r1, vi r2]]
                (cast (And.intro (ob_pure (P := pg) (A := an) (H := [.obj [sv EN b0 nil0 capd0 l0, sv EN b1 nil1 capd1 l1, sv EN b2 nil2 capd2 l2], .obj [vi r0, vi r1, vi r2]]) (g := 7) (vals := [.y (.one (sv EN b1 nil1 capd1 l1))]) (xs0 := [.one (sv EN b1 nil1 capd1 l1)]) (xs1 := [.one (sv EN b1 nil1 capd1 l1)]) (res := [.one (vi ((half l1)))]) (ats := #[]) (ty := 0) (v := xi ((half l1))) [.tmp 0] (by kernel_rfl) (by kernel_rfl) (by kernel_rfl) (fn7 _ _ _ l1 (by omega)) (by kernel_rfl)) (And.intro (ob_raw (P := pg) (A := an) (vals := [xi ((half l1)), xi r1]) (H := [.obj [sv EN b0 nil0 capd0 l0, sv EN b1 nil1 capd1 l1, sv EN b2 nil2 capd2 l2], .obj [vi r0, vi r1, vi r2]]) (op := .call { callee := .builtin .min, args := #[.tmp 0, .tmp 1], argTypes := #[3, 3] }) (ty := 0) (r := xi (if (r1 : Int) < ((half l1)) then r1 else ((half l1)))) (v := xi r1) (by kernel_rfl) (congrArg (fun z => xi z) (if_pos (by omega)))) trivial)) (by kernel_rfl)) (by kernel_rfl) ?_
              by_cases c36 : (0 : Int) < r1
              ·
                refine Wp.regionSeq [(1, xb true, [.obj [sv EN b0 nil0 capd0 l0, sv EN b1 nil1 capd1 l1, sv EN b2 nil2 capd2 l2], .obj [vi r0, vi r1, vi r2]])] [(2, .y (.one (.ptr 0 0))), (3, .y (.one (.ptr 1 0))), (9, xi 1), (10, xi r1), (18, xi 1), (30, xb true)] [.obj [sv EN b0 nil0 capd0 l0, sv EN b1 nil1 capd1 l1, sv EN b2 nil2 capd2 l2], .obj [vi r0, vi r1, vi r2]]
                  (cast (And.intro (ob_raw (P := pg) (A := an) (vals := [xi r1, xi 0]) (H := [.obj [sv EN b0 nil0 capd0 l0, sv EN b1 nil1 capd1 l1, sv EN b2 nil2 capd2 l2], .obj [vi r0, vi r1, vi r2]]) (op := .binOp .gtr 3 (.tmp 0) (.tmp 1) 3) (ty := 0) (r := xb (decide ((r1 : Int) > 0))) (v := xb true) (by kernel_rfl) (congrArg (fun z => xb z) (decide_eq_true (by omega)))) trivial) (by kernel_rfl)) (by kernel_rfl) ?_
                refine Wp.condT (by kernel_rfl) ?_
                refine Wp.regionSeq [] [(4, xi 1), (5, xi r1), (6, xi 0)] [.obj [sv EN b0 nil0 capd0 l0, sv EN b1 nil1 capd1 l1, sv EN b2 nil2 capd2 l2], .obj [vi r0, vi r1, vi r2]]
                  (cast trivial (by kernel_rfl)) (by kernel_rfl) ?_
                refine Wp.ret ?_
                exact ⟨Or.inr rfl, [.one (vi 1), .one (vi r1), .one (vi 0)], by kernel_rfl, (by have hp : plan (half l0) (half l1) (half l2) r0 r1 r2 = (1, r1, 0) := by { unfold plan pick; repeat' first | rw [if_pos (by omega)] | rw [if_neg (by omega)] }; rw [hp]; rfl)⟩
              ·
                refine Wp.regionSeq [(1, xb false, [.obj [sv EN b0 nil0 capd0 l0, sv EN b1 nil1 capd1 l1, sv EN b2 nil2 capd2 l2], .obj [vi r0, vi r1, vi r2]])] [(2, .y (.one (.ptr 0 0))), (3, .y (.one (.ptr 1 0))), (9, xi 1), (10, xi r1), (18, xi 1), (30, xb false)] [.obj [sv EN b0 nil0 capd0 l0, sv EN b1 nil1 capd1 l1, sv EN b2 nil2 capd2 l2], .obj [vi r0, vi r1, vi r2]]
                  (cast (And.intro (ob_raw (P := pg) (A := an) (vals := [xi r1, xi 0]) (H := [.obj [sv EN b0 nil0 capd0 l0, sv EN b1 nil1 capd1 l1, sv EN b2 nil2 capd2 l2], .obj [vi r0, vi r1, vi r2]]) (op := .binOp .gtr 3 (.tmp 0) (.tmp 1) 3) (ty := 0) (r := xb (decide ((r1 : Int) > 0))) (v := xb false) (by kernel_rfl) (congrArg (fun z => xb z) (decide_eq_false (by omega)))) trivial) (by kernel_rfl)) (by kernel_rfl) ?_
                refine Wp.condF (by kernel_rfl) ?_
                refine Wp.skip ?_
                refine Wp.region [] [(2, .y (.one (.ptr 0 0))), (3, .y (.one (.ptr 1 0))), (18, xi 2)] [.obj [sv EN b0 nil0 capd0 l0, sv EN b1 nil1 capd1 l1, sv EN b2 nil2 capd2 l2], .obj [vi r0, vi r1, vi r2]]
                  (cast trivial (by kernel_rfl)) (by kernel_rfl) ?_
                refine ⟨[(2, .y (.one (.ptr 0 0))), (3, .y (.one (.ptr 1 0))), (18, xi 2)], [.obj [sv EN b0 nil0 capd0 l0, sv EN b1 nil1 capd1 l1, sv EN b2 nil2 capd2 l2], .obj [vi r0, vi r1, vi r2]], by kernel_rfl, ?_⟩
                refine WpL.step ?_
                refine Wp.regionSeq [] [(2, .y (.one (.ptr 0 0))), (3, .y (.one (.ptr 1 0))), (18, xi 2), (19, xb true)] [.obj [sv EN b0 nil0 capd0 l0, sv EN b1 nil1 capd1 l1, sv EN b2 nil2 capd2 l2], .obj [vi r0, vi r1, vi r2]]
                  (cast trivial (by kernel_rfl)) (by kernel_rfl) ?_
                refine Wp.seq ?_
                refine Wp.condT (by kernel_rfl) ?_
                refine Wp.skip ?_
                refine Wp.seq ?_
                refine Wp.block ?_
                refine Wp.regionSeq [] [(2, .y (.one (.ptr 0 0))), (3, .y (.one (.ptr 1 0))), (9, xi 2), (18, xi 2)] [.obj [sv EN b0 nil0 capd0 l0, sv EN b1 nil1 capd1 l1, sv EN b2 nil2 capd2 l2], .obj [vi r0, vi r1, vi r2]]
                  (cast trivial (by kernel_rfl)) (by kernel_rfl) ?_
                have hhz37 := half_is (l2)
                by_cases c39 : (r2 : Int) < ((half l2))
                ·
                  refine Wp.regionSeq [(3, xi ((half l2)), [.obj [sv EN b0 nil0 capd0 l0, sv EN b1 nil1 capd1 l1, sv EN b2 nil2 capd2 l2], .obj [vi r0, vi r1, vi r2]]), (7, xi r2, [.obj [sv EN b0 nil0 capd0 l0, sv EN b1 nil1 capd1 l1, sv EN b2 nil2 capd2 l2], .obj [vi r0, vi r1, vi r2]])] [(2, .y (.one (.ptr 0 0))), (3, .y (.one (.ptr 1 0))), (9, xi 2), (10, xi r2), (18, xi 2)] [.obj [sv EN b0 nil0 capd0 l0, sv EN b1 nil1 capd1 l1, sv EN b2 nil2 capd2 l2], .obj [vi r0, vi r1, vi r2]]
                    (cast (And.intro (ob_pure (P := pg) (A := an) (H := [.obj [sv EN b0 nil0 capd0 l0, sv EN b1 nil1 capd1 l1, sv EN b2 nil2 capd2 l2], .obj [vi r0, vi r1, vi r2]]) (g := 7) (vals := [.y (.one (sv EN b2 nil2 capd2 l2))]) (xs0 := [.one (sv EN b2 nil2 capd2 l2)]) (xs1 := [.one (sv EN b2 nil2 capd2 l2)]) (res := [.one (vi ((half l2)))]) (ats := #[]) (ty := 0) (v := xi ((half l2))) [.tmp 0] (by kernel_rfl) (by kernel_rfl) (by kernel_rfl) (fn7 _ _ _ l2 (by omega)) (by kernel_rfl)) (And.intro (ob_raw (P := pg) (A := an) (vals := [xi ((half l2)), xi r2]) (H := [.obj [sv EN b0 nil0 capd0 l0, sv EN b1 nil1 capd1 l1, sv EN b2 nil2 capd2 l2], .obj [vi r0, vi r1, vi r2]]) (op := .call { callee := .builtin .min, args := #[.tmp 0, .tmp 1], argTypes := #[3, 3] }) (ty := 0) (r := xi (if (r2 : Int) < ((half l2)) then r2 else ((half l2)))) (v := xi r2) (by kernel_rfl) (congrArg (fun z => xi z) (if_pos (by omega)))) trivial)) (by kernel_rfl)) (by kernel_rfl) ?_
                  by_cases c41 : (0 : Int) < r2
                  ·
                    refine Wp.regionSeq [(1, xb true, [.obj [sv EN b0 nil0 capd0 l0, sv EN b1 nil1 capd1 l1, sv EN b2 nil2 capd2 l2], .obj [vi r0, vi r1, vi r2]])] [(2, .y (.one (.ptr 0 0))), (3, .y (.one (.ptr 1 0))), (9, xi 2), (10, xi r2), (18, xi 2), (30, xb true)] [.obj [sv EN b0 nil0 capd0 l0, sv EN b1 nil1 capd1 l1, sv EN b2 nil2 capd2 l2], .obj [vi r0, vi r1, vi r2]]
                      (cast (And.intro (ob_raw (P := pg) (A := an) (vals := [xi r2, xi 0]) (H := [.obj [sv EN b0 nil0 capd0 l0, sv EN b1 nil1 capd1 l1, sv EN b2 nil2 capd2 l2], .obj [vi r0, vi r1, vi r2]]) (op := .binOp .gtr 3 (.tmp 0) (.tmp 1) 3) (ty := 0) (r := xb (decide ((r2 : Int) > 0))) (v := xb true) (by kernel_rfl) (congrArg (fun z => xb z) (decide_eq_true (by omega)))) trivial) (by kernel_rfl)) (by kernel_rfl) ?_
                    refine Wp.condT (by kernel_rfl) ?_
                    refine Wp.regionSeq [] [(4, xi 2), (5, xi r2), (6, xi 0)] [.obj [sv EN b0 nil0 capd0 l0, sv EN b1 nil1 capd1 l1, sv EN b2 nil2 capd2 l2], .obj [vi r0, vi r1, vi r2]]
                      (cast trivial (by kernel_rfl)) (by kernel_rfl) ?_
                    refine Wp.ret ?_
                    exact ⟨Or.inr rfl, [.one (vi 2), .one (vi r2), .one (vi 0)], by kernel_rfl, (by have hp : plan (half l0) (half l1) (half l2) r0 r1 r2 = (2, r2, 0) := by { unfold plan pick; repeat' first | rw [if_pos (by omega)] | rw [if_neg (by omega)] }; rw [hp]; rfl)⟩
                  ·
                    refine Wp.regionSeq [(1, xb false, [.obj [sv EN b0 nil0 capd0 l0, sv EN b1 nil1 capd1 l1, sv EN b2 nil2 capd2 l2], .obj [vi r0, vi r1, vi r2]])] [(2, .y (.one (.ptr 0 0))), (3, .y (.one (.ptr 1 0))), (9, xi 2), (10, xi r2), (18, xi 2), (30, xb false)] [.obj [sv EN b0 nil0 capd0 l0, sv EN b1 nil1 capd1 l1, sv EN b2 nil2 capd2 l2], .obj [vi r0, vi r1, vi r2]]
                      (cast (And.intro (ob_raw (P := pg) (A := an) (vals := [xi r2, xi 0]) (H := [.obj [sv EN b0 nil0 capd0 l0, sv EN b1 nil1 capd1 l1, sv EN b2 nil2 capd2 l2], .obj [vi r0, vi r1, vi r2]]) (op := .binOp .gtr 3 (.tmp 0) (.tmp 1) 3) (ty := 0) (r := xb (decide ((r2 : Int) > 0))) (v := xb false) (by kernel_rfl) (congrArg (fun z => xb z) (decide_eq_false (by omega)))) trivial) (by kernel_rfl)) (by kernel_rfl) ?_
                    refine Wp.condF (by kernel_rfl) ?_
                    refine Wp.skip ?_
                    refine Wp.region [] [(2, .y (.one (.ptr 0 0))), (3, .y (.one (.ptr 1 0))), (18, xi 3)] [.obj [sv EN b0 nil0 capd0 l0, sv EN b1 nil1 capd1 l1, sv EN b2 nil2 capd2 l2], .obj [vi r0, vi r1, vi r2]]
                      (cast trivial (by kernel_rfl)) (by kernel_rfl) ?_
                    refine ⟨[(2, .y (.one (.ptr 0 0))), (3, .y (.one (.ptr 1 0))), (18, xi 3)], [.obj [sv EN b0 nil0 capd0 l0, sv EN b1 nil1 capd1 l1, sv EN b2 nil2 capd2 l2], .obj [vi r0, vi r1, vi r2]], by kernel_rfl, ?_⟩
                    refine WpL.step ?_
                    refine Wp.regionSeq [] [(2, .y (.one (.ptr 0 0))), (3, .y (.one (.ptr 1 0))), (18, xi 3), (19, xb false)] [.obj [sv EN b0 nil0 capd0 l0, sv EN b1 nil1 capd1 l1, sv EN b2 nil2 capd2 l2], .obj [vi r0, vi r1, vi r2]]
                      (cast trivial (by kernel_rfl)) (by kernel_rfl) ?_
                    refine Wp.seq ?_
                    refine Wp.condF (by kernel_rfl) ?_
                    refine Wp.exit ?_
                    refine Eq.mpr (if_pos rfl) ?_
                    refine Wp.regionSeq [] [(4, xi 0), (5, xi 0), (6, xi 3)] [.obj [sv EN b0 nil0 capd0 l0, sv EN b1 nil1 capd1 l1, sv EN b2 nil2 capd2 l2], .obj [vi r0, vi r1, vi r2]]
                      (cast trivial (by kernel_rfl)) (by kernel_rfl) ?_
                    refine Wp.ret ?_
                    exact ⟨Or.inr rfl, [.one (vi 0), .one (vi 0), .one (vi 3)], by kernel_rfl, (by have hp : plan (half l0) (half l1) (half l2) r0 r1 r2 = (0, 0, 3) := by { unfold plan pick; repeat' first | rw [if_pos (by omega)] | rw [if_neg (by omega)] }; rw [hp]; rfl)⟩
                ·
                  refine Wp.regionSeq [(3, xi ((half l2)), [.obj [sv EN b0 nil0 capd0 l0, sv EN b1 nil1 capd1 l1, sv EN b2 nil2 capd2 l2], .obj [vi r0, vi r1, vi r2]]), (7, xi ((half l2)), [.obj [sv EN b0 nil0 capd0 l0, sv EN b1 nil1 capd1 l1, sv EN b2 nil2 capd2 l2], .obj [vi r0, vi r1, vi r2]])] [(2, .y (.one (.ptr 0 0))), (3, .y (.one (.ptr 1 0))), (9, xi 2), (10, xi ((half l2))), (18, xi 2)] [.obj [sv EN b0 nil0 capd0 l0, sv EN b1 nil1 capd1 l1, sv EN b2 nil2 capd2 l2], .obj [vi r0, vi r1, vi r2]]
                    (cast (And.intro (ob_pure (P := pg) (A := an) (H := [.obj [sv EN b0 nil0 capd0 l0, sv EN b1 nil1 capd1 l1, sv EN b2 nil2 capd2 l2], .obj [vi r0, vi r1, vi r2]]) (g := 7) (vals := [.y (.one (sv EN b2 nil2 capd2 l2))]) (xs0 := [.one (sv EN b2 nil2 capd2 l2)]) (xs1 := [.one (sv EN b2 nil2 capd2 l2)]) (res := [.one (vi ((half l2)))]) (ats := #[]) (ty := 0) (v := xi ((half l2))) [.tmp 0] (by kernel_rfl) (by kernel_rfl) (by kernel_rfl) (fn7 _ _ _ l2 (by omega)) (by kernel_rfl)) (And.intro (ob_raw (P := pg) (A := an) (vals := [xi ((half l2)), xi r2]) (H := [.obj [sv EN b0 nil0 capd0 l0, sv EN b1 nil1 capd1 l1, sv EN b2 nil2 capd2 l2], .obj [vi r0, vi r1, vi r2]]) (op := .call { callee := .builtin .min, args := #[.tmp 0, .tmp 1], argTypes := #[3, 3] }) (ty := 0) (r := xi (if (r2 : Int) < ((half l2)) then r2 else ((half l2)))) (v := xi ((half l2))) (by kernel_rfl) (congrArg (fun z => xi z) (if_neg (by omega)))) trivial)) (by kernel_rfl)) (by kernel_rfl) ?_
                  by_cases c43 : (0 : Int) < ((half l2))
                  ·
                    refine Wp.regionSeq [(1, xb true, [.obj [sv EN b0 nil0 capd0 l0, sv EN b1 nil1 capd1 l1, sv EN b2 nil2 capd2 l2], .obj [vi r0, vi r1, vi r2]])] [(2, .y (.one (.ptr 0 0))), (3, .y (.one (.ptr 1 0))), (9, xi 2), (10, xi ((half l2))), (18, xi 2), (30, xb true)] [.obj [sv EN b0 nil0 capd0 l0, sv EN b1 nil1 capd1 l1, sv EN b2 nil2 capd2 l2], .obj [vi r0, vi r1, vi r2]]
                      (cast (And.intro (ob_raw (P := pg) (A := an) (vals := [xi ((half l2)), xi 0]) (H := [.obj [sv EN b0 nil0 capd0 l0, sv EN b1 nil1 capd1 l1, sv EN b2 nil2 capd2 l2], .obj [vi r0, vi r1, vi r2]]) (op := .binOp .gtr 3 (.tmp 0) (.tmp 1) 3) (ty := 0) (r := xb (decide ((((half l2)) : Int) > 0))) (v := xb true) (by kernel_rfl) (congrArg (fun z => xb z) (decide_eq_true (by omega)))) trivial) (by kernel_rfl)) (by kernel_rfl) ?_
                    refine Wp.condT (by kernel_rfl) ?_
                    refine Wp.regionSeq [] [(4, xi 2), (5, xi ((half l2))), (6, xi 0)] [.obj [sv EN b0 nil0 capd0 l0, sv EN b1 nil1 capd1 l1, sv EN b2 nil2 capd2 l2], .obj [vi r0, vi r1, vi r2]]
                      (cast trivial (by kernel_rfl)) (by kernel_rfl) ?_
                    refine Wp.ret ?_
                    exact ⟨Or.inr rfl, [.one (vi 2), .one (vi ((half l2))), .one (vi 0)], by kernel_rfl, (by have hp : plan (half l0) (half l1) (half l2) r0 r1 r2 = (2, ((half l2)), 0) := by { unfold plan pick; repeat' first | rw [if_pos (by omega)] | rw [if_neg (by omega)] }; rw [hp]; rfl)⟩
                  ·
                    refine Wp.regionSeq [(1, xb false, [.obj [sv EN b0 nil0 capd0 l0, sv EN b1 nil1 capd1 l1, sv EN b2 nil2 capd2 l2], .obj [vi r0, vi r1, vi r2]])] [(2, .y (.one (.ptr 0 0))), (3, .y (.one (.ptr 1 0))), (9, xi 2), (10, xi ((half l2))), (18, xi 2), (30, xb false)] [.obj [sv EN b0 nil0 capd0 l0, sv EN b1 nil1 capd1 l1, sv EN b2 nil2 capd2 l2], .obj [vi r0, vi r1, vi r2]]
                      (cast (And.intro (ob_raw (P := pg) (A := an) (vals := [xi ((half l2)), xi 0]) (H := [.obj [sv EN b0 nil0 capd0 l0, sv EN b1 nil1 capd1 l1, sv EN b2 nil2 capd2 l2], .obj [vi r0, vi r1, vi r2]]) (op := .binOp .gtr 3 (.tmp 0) (.tmp 1) 3) (ty := 0) (r := xb (decide ((((half l2)) : Int) > 0))) (v := xb false) (by kernel_rfl) (congrArg (fun z => xb z) (decide_eq_false (by omega)))) trivial) (by kernel_rfl)) (by kernel_rfl) ?_
                    refine Wp.condF (by kernel_rfl) ?_
                    refine Wp.skip ?_
                    refine Wp.region [] [(2, .y (.one (.ptr 0 0))), (3, .y (.one (.ptr 1 0))), (18, xi 3)] [.obj [sv EN b0 nil0 capd0 l0, sv EN b1 nil1 capd1 l1, sv EN b2 nil2 capd2 l2], .obj [vi r0, vi r1, vi r2]]
                      (cast trivial (by kernel_rfl)) (by kernel_rfl) ?_
                    refine ⟨[(2, .y (.one (.ptr 0 0))), (3, .y (.one (.ptr 1 0))), (18, xi 3)], [.obj [sv EN b0 nil0 capd0 l0, sv EN b1 nil1 capd1 l1, sv EN b2 nil2 capd2 l2], .obj [vi r0, vi r1, vi r2]], by kernel_rfl, ?_⟩
                    refine WpL.step ?_
                    refine Wp.regionSeq [] [(2, .y (.one (.ptr 0 0))), (3, .y (.one (.ptr 1 0))), (18, xi 3), (19, xb false)] [.obj [sv EN b0 nil0 capd0 l0, sv EN b1 nil1 capd1 l1, sv EN b2 nil2 capd2 l2], .obj [vi r0, vi r1, vi r2]]
                      (cast trivial (by kernel_rfl)) (by kernel_rfl) ?_
                    refine Wp.seq ?_
                    refine Wp.condF (by kernel_rfl) ?_
                    refine Wp.exit ?_
                    refine Eq.mpr (if_pos rfl) ?_
                    refine Wp.regionSeq [] [(4, xi 0), (5, xi 0), (6, xi 3)] [.obj [sv EN b0 nil0 capd0 l0, sv EN b1 nil1 capd1 l1, sv EN b2 nil2 capd2 l2], .obj [vi r0, vi r1, vi r2]]
                      (cast trivial (by kernel_rfl)) (by kernel_rfl) ?_
                    refine Wp.ret ?_
                    exact ⟨Or.inr rfl, [.one (vi 0), .one (vi 0), .one (vi 3)], by kernel_rfl, (by have hp : plan (half l0) (half l1) (half l2) r0 r1 r2 = (0, 0, 3) := by { unfold plan pick; repeat' first | rw [if_pos (by omega)] | rw [if_neg (by omega)] }; rw [hp]; rfl)⟩
            ·
              refine Wp.regionSeq [(3, xi ((half l1)), [.obj [sv EN b0 nil0 capd0 l0, sv EN b1 nil1 capd1 l1, sv EN b2 nil2 capd2 l2], .obj [vi r0, vi r1, vi r2]]), (7, xi ((half l1)), [.obj [sv EN b0 nil0 capd0 l0, sv EN b1 nil1 capd1 l1, sv EN b2 nil2 capd2 l2], .obj [vi r0, vi r1, vi r2]])] [(2, .y (.one (.ptr 0 0))), (3, .y (.one (.ptr 1 0))), (9, xi 1), (10, xi ((half l1))), (18, xi 1)] [.obj [sv EN b0 nil0 capd0 l0, sv EN b1 nil1 capd1 l1, sv EN b2 nil2 capd2 l2], .obj [vi r0, vi r1, vi r2]]
                (cast (And.intro (ob_pure (P := pg) (A := an) (H := [.obj [sv EN b0 nil0 capd0 l0, sv EN b1 nil1 capd1 l1, sv EN b2 nil2 capd2 l2], .obj [vi r0, vi r1, vi r2]]) (g := 7) (vals := [.y (.one (sv EN b1 nil1 capd1 l1))]) (xs0 := [.one (sv EN b1 nil1 capd1 l1)]) (xs1 := [.one (sv EN b1 nil1 capd1 l1)]) (res := [.one (vi ((half l1)))]) (ats := #[]) (ty := 0) (v := xi ((half l1))) [.tmp 0] (by kernel_rfl) (by kernel_rfl) (by kernel_rfl) (fn7 _ _ _ l1 (by omega)) (by kernel_rfl)) (And.intro (ob_raw (P := pg) (A := an) (vals := [xi ((half l1)), xi r1]) (H := [.obj [sv EN b0 nil0 capd0 l0, sv EN b1 nil1 capd1 l1, sv EN b2 nil2 capd2 l2], .obj [vi r0, vi r1, vi r2]]) (op := .call { callee := .builtin .min, args := #[.tmp 0, .tmp 1], argTypes := #[3, 3] }) (ty := 0) (r := xi (if (r1 : Int) < ((half l1)) then r1 else ((half l1)))) (v := xi ((half l1))) (by kernel_rfl) (congrArg (fun z => xi z) (if_neg (by omega)))) trivial)) (by kernel_rfl)) (by kernel_rfl) ?_
              by_cases c45 : (0 : Int) < ((half l1))
              ·
                refine Wp.regionSeq [(1, xb true, [.obj [sv EN b0 nil0 capd0 l0, sv EN b1 nil1 capd1 l1, sv EN b2 nil2 capd2 l2], .obj [vi r0, vi r1, vi r2]])] [(2, .y (.one (.ptr 0 0))), (3, .y (.one (.ptr 1 0))), (9, xi 1), (10, xi ((half l1))), (18, xi 1), (30, xb true)] [.obj [sv EN b0 nil0 capd0 l0, sv EN b1 nil1 capd1 l1, sv EN b2 nil2 capd2 l2], .obj [vi r0, vi r1, vi r2]]
                  (cast (And.intro (ob_raw (P := pg) (A := an) (vals := [xi ((half l1)), xi 0]) (H := [.obj [sv EN b0 nil0 capd0 l0, sv EN b1 nil1 capd1 l1, sv EN b2 nil2 capd2 l2], .obj [vi r0, vi r1, vi r2]]) (op := .binOp .gtr 3 (.tmp 0) (.tmp 1) 3) (ty := 0) (r := xb (decide ((((half l1)) : Int) > 0))) (v := xb true) (by kernel_rfl) (congrArg (fun z => xb z) (decide_eq_true (by omega)))) trivial) (by kernel_rfl)) (by kernel_rfl) ?_
                refine Wp.condT (by kernel_rfl) ?_
                refine Wp.regionSeq [] [(4, xi 1), (5, xi ((half l1))), (6, xi 0)] [.obj [sv EN b0 nil0 capd0 l0, sv EN b1 nil1 capd1 l1, sv EN b2 nil2 capd2 l2], .obj [vi r0, vi r1, vi r2]]
                  (cast trivial (by kernel_rfl)) (by kernel_rfl) ?_
                refine Wp.ret ?_
                exact ⟨Or.inr rfl, [.one (vi 1), .one (vi ((half l1))), .one (vi 0)], by kernel_rfl, (by have hp : plan (half l0) (half l1) (half l2) r0 r1 r2 = (1, ((half l1)), 0) := by { unfold plan pick; repeat' first | rw [if_pos (by omega)] | rw [if_neg (by omega)] }; rw [hp]; rfl)⟩
              ·
                refine Wp.regionSeq [(1, xb false, [.obj [sv EN b0 nil0 capd0 l0, sv EN b1 nil1 capd1 l1, sv EN b2 nil2 capd2 l2], .obj [vi r0, vi r1, vi r2]])] [(2, .y (.one (.ptr 0 0))), (3, .y (.one (.ptr 1 0))), (9, xi 1), (10, xi ((half l1))), (18, xi 1), (30, xb false)] [.obj [sv EN b0 nil0 capd0 l0, sv EN b1 nil1 capd1 l1, sv EN b2 nil2 capd2 l2], .obj [vi r0, vi r1, vi r2]]
                  (cast (And.intro (ob_raw (P := pg) (A := an) (vals := [xi ((half l1)), xi 0]) (H := [.obj [sv EN b0 nil0 capd0 l0, sv EN b1 nil1 capd1 l1, sv EN b2 nil2 capd2 l2], .obj [vi r0, vi r1, vi r2]]) (op := .binOp .gtr 3 (.tmp 0) (.tmp 1) 3) (ty := 0) (r := xb (decide ((((half l1)) : Int) > 0))) (v := xb false) (by kernel_rfl) (congrArg (fun z => xb z) (decide_eq_false (by omega)))) trivial) (by kernel_rfl)) (by kernel_rfl) ?_
                refine Wp.condF (by kernel_rfl) ?_
                refine Wp.skip ?_
                refine Wp.region [] [(2, .y (.one (.ptr 0 0))), (3, .y (.one (.ptr 1 0))), (18, xi 2)] [.obj [sv EN b0 nil0 capd0 l0, sv EN b1 nil1 capd1 l1, sv EN b2 nil2 capd2 l2], .obj [vi r0, vi r1, vi r2]]
                  (cast trivial (by kernel_rfl)) (by kernel_rfl) ?_
                refine ⟨[(2, .y (.one (.ptr 0 0))), (3, .y (.one (.ptr 1 0))), (18, xi 2)], [.obj [sv EN b0 nil0 capd0 l0, sv EN b1 nil1 capd1 l1, sv EN b2 nil2 capd2 l2], .obj [vi r0, vi r1, vi r2]], by kernel_rfl, ?_⟩
                refine WpL.step ?_
                refine Wp.regionSeq [] [(2, .y (.one (.ptr 0 0))), (3, .y (.one (.ptr 1 0))), (18, xi 2), (19, xb true)] [.obj [sv EN b0 nil0 capd0 l0, sv EN b1 nil1 capd1 l1, sv EN b2 nil2 capd2 l2], .obj [vi r0, vi r1, vi r2]]
                  (cast trivial (by kernel_rfl)) (by kernel_rfl) ?_
                refine Wp.seq ?_
                refine Wp.condT (by kernel_rfl) ?_
                refine Wp.skip ?_
                refine Wp.seq ?_
                refine Wp.block ?_
                refine Wp.regionSeq [] [(2, .y (.one (.ptr 0 0))), (3, .y (.one (.ptr 1 0))), (9, xi 2), (18, xi 2)] [.obj [sv EN b0 nil0 capd0 l0, sv EN b1 nil1 capd1 l1, sv EN b2 nil2 capd2 l2], .obj [vi r0, vi r1, vi r2]]
                  (cast trivial (by kernel_rfl)) (by kernel_rfl) ?_
                have hhz46 := half_is (l2)
                by_cases c48 : (r2 : Int) < ((half l2))
                ·
                  refine Wp.regionSeq [(3, xi ((half l2)), [.obj [sv EN b0 nil0 capd0 l0, sv EN b1 nil1 capd1 l1, sv EN b2 nil2 capd2 l2], .obj [vi r0, vi r1, vi r2]]), (7, xi r2, [.obj [sv EN b0 nil0 capd0 l0, sv EN b1 nil1 capd1 l1, sv EN b2 nil2 capd2 l2], .obj [vi r0, vi r1, vi r2]])] [(2, .y (.one (.ptr 0 0))), (3, .y (.one (.ptr 1 0))), (9, xi 2), (10, xi r2), (18, xi 2)] [.obj [sv EN b0 nil0 capd0 l0, sv EN b1 nil1 capd1 l1, sv EN b2 nil2 capd2 l2], .obj [vi r0, vi r1, vi r2]]
                    (cast (And.intro (ob_pure (P := pg) (A := an) (H := [.obj [sv EN b0 nil0 capd0 l0, sv EN b1 nil1 capd1 l1, sv EN b2 nil2 capd2 l2], .obj [vi r0, vi r1, vi r2]]) (g := 7) (vals := [.y (.one (sv EN b2 nil2 capd2 l2))]) (xs0 := [.one (sv EN b2 nil2 capd2 l2)]) (xs1 := [.one (sv EN b2 nil2 capd2 l2)]) (res := [.one (vi ((half l2)))]) (ats := #[]) (ty := 0) (v := xi ((half l2))) [.tmp 0] (by kernel_rfl) (by kernel_rfl) (by kernel_rfl) (fn7 _ _ _ l2 (by omega)) (by kernel_rfl)) (And.intro (ob_raw (P := pg) (A := an) (vals := [xi ((half l2)), xi r2]) (H := [.obj [sv EN b0 nil0 capd0 l0, sv EN b1 nil1 capd1 l1, sv EN b2 nil2 capd2 l2], .obj [vi r0, vi r1, vi r2]]) (op := .call { callee := .builtin .min, args := #[.tmp 0, .tmp 1], argTypes := #[3, 3] }) (ty := 0) (r := xi (if (r2 : Int) < ((half l2)) then r2 else ((half l2)))) (v := xi r2) (by kernel_rfl) (congrArg (fun z => xi z) (if_pos (by omega)))) trivial)) (by kernel_rfl)) (by kernel_rfl) ?_
                  by_cases c50 : (0 : Int) < r2
                  ·
                    refine Wp.regionSeq [(1, xb true, [.obj [sv EN b0 nil0 capd0 l0, sv EN b1 nil1 capd1 l1, sv EN b2 nil2 capd2 l2], .obj [vi r0, vi r1, vi r2]])] [(2, .y (.one (.ptr 0 0))), (3, .y (.one (.ptr 1 0))), (9, xi 2), (10, xi r2), (18, xi 2), (30, xb true)] [.obj [sv EN b0 nil0 capd0 l0, sv EN b1 nil1 capd1 l1, sv EN b2 nil2 capd2 l2], .obj [vi r0, vi r1, vi r2]]
                      (cast (And.intro (ob_raw (P := pg) (A := an) (vals := [xi r2, xi 0]) (H := [.obj [sv EN b0 nil0 capd0 l0, sv EN b1 nil1 capd1 l1, sv EN b2 nil2 capd2 l2], .obj [vi r0, vi r1, vi r2]]) (op := .binOp .gtr 3 (.tmp 0) (.tmp 1) 3) (ty := 0) (r := xb (decide ((r2 : Int) > 0))) (v := xb true) (by kernel_rfl) (congrArg (fun z => xb z) (decide_eq_true (by omega)))) trivial) (by kernel_rfl)) (by kernel_rfl) ?_
                    refine Wp.condT (by kernel_rfl) ?_
                    refine Wp.regionSeq [] [(4, xi 2), (5, xi r2), (6, xi 0)] [.obj [sv EN b0 nil0 capd0 l0, sv EN b1 nil1 capd1 l1, sv EN b2 nil2 capd2 l2], .obj [vi r0, vi r1, vi r2]]
                      (cast trivial (by kernel_rfl)) (by kernel_rfl) ?_
                    refine Wp.ret ?_
                    exact ⟨Or.inr rfl, [.one (vi 2), .one (vi r2), .one (vi 0)], by kernel_rfl, (by have hp : plan (half l0) (half l1) (half l2) r0 r1 r2 = (2, r2, 0) := by { unfold plan pick; repeat' first | rw [if_pos (by omega)] | rw [if_neg (by omega)] }; rw [hp]; rfl)⟩
                  ·
                    refine Wp.regionSeq [(1, xb false, [.obj [sv EN b0 nil0 capd0 l0, sv EN b1 nil1 capd1 l1, sv EN b2 nil2 capd2 l2], .obj [vi r0, vi r1, vi r2]])] [(2, .y (.one (.ptr 0 0))), (3, .y (.one (.ptr 1 0))), (9, xi 2), (10, xi r2), (18, xi 2), (30, xb false)] [.obj [sv EN b0 nil0 capd0 l0, sv EN b1 nil1 capd1 l1, sv EN b2 nil2 capd2 l2], .obj [vi r0, vi r1, vi r2]]
                      (cast (And.intro (ob_raw (P := pg) (A := an) (vals := [xi r2, xi 0]) (H := [.obj [sv EN b0 nil0 capd0 l0, sv EN b1 nil1 capd1 l1, sv EN b2 nil2 capd2 l2], .obj [vi r0, vi r1, vi r2]]) (op := .binOp .gtr 3 (.tmp 0) (.tmp 1) 3) (ty := 0) (r := xb (decide ((r2 : Int) > 0))) (v := xb false) (by kernel_rfl) (congrArg (fun z => xb z) (decide_eq_false (by omega)))) trivial) (by kernel_rfl)) (by kernel_rfl) ?_
                    refine Wp.condF (by kernel_rfl) ?_
                    refine Wp.skip ?_
                    refine Wp.region [] [(2, .y (.one (.ptr 0 0))), (3, .y (.one (.ptr 1 0))), (18, xi 3)] [.obj [sv EN b0 nil0 capd0 l0, sv EN b1 nil1 capd1 l1, sv EN b2 nil2 capd2 l2], .obj [vi r0, vi r1, vi r2]]
                      (cast trivial (by kernel_rfl)) (by kernel_rfl) ?_
                    refine ⟨[(2, .y (.one (.ptr 0 0))), (3, .y (.one (.ptr 1 0))), (18, xi 3)], [.obj [sv EN b0 nil0 capd0 l0, sv EN b1 nil1 capd1 l1, sv EN b2 nil2 capd2 l2], .obj [vi r0, vi r1, vi r2]], by kernel_rfl, ?_⟩
                    refine WpL.step ?_
                    refine Wp.regionSeq [] [(2, .y (.one (.ptr 0 0))), (3, .y (.one (.ptr 1 0))), (18, xi 3), (19, xb false)] [.obj [sv EN b0 nil0 capd0 l0, sv EN b1 nil1 capd1 l1, sv EN b2 nil2 capd2 l2], .obj [vi r0, vi r1, vi r2]]
                      (cast trivial (by kernel_rfl)) (by kernel_rfl) ?_
                    refine Wp.seq ?_
                    refine Wp.condF (by kernel_rfl) ?_
                    refine Wp.exit ?_
                    refine Eq.mpr (if_pos rfl) ?_
                    refine Wp.regionSeq [] [(4, xi 0), (5, xi 0), (6, xi 3)] [.obj [sv EN b0 nil0 capd0 l0, sv EN b1 nil1 capd1 l1, sv EN b2 nil2 capd2 l2], .obj [vi r0, vi r1, vi r2]]
                      (cast trivial (by kernel_rfl)) (by kernel_rfl) ?_
                    refine Wp.ret ?_
                    exact ⟨Or.inr rfl, [.one (vi 0), .one (vi 0), .one (vi 3)], by kernel_rfl, (by have hp : plan (half l0) (half l1) (half l2) r0 r1 r2 = (0, 0, 3) := by { unfold plan pick; repeat' first | rw [if_pos (by omega)] | rw [if_neg (by omega)] }; rw [hp]; rfl)⟩
                ·
                  refine Wp.regionSeq [(3, xi ((half l2)), [.obj [sv EN b0 nil0 capd0 l0, sv EN b1 nil1 capd1 l1, sv EN b2 nil2 capd2 l2], .obj [vi r0, vi r1, vi r2]]), (7, xi ((half l2)), [.obj [sv EN b0 nil0 capd0 l0, sv EN b1 nil1 capd1 l1, sv EN b2 nil2 capd2 l2], .obj [vi r0, vi r1, vi r2]])] [(2, .y (.one (.ptr 0 0))), (3, .y (.one (.ptr 1 0))), (9, xi 2), (10, xi ((half l2))), (18, xi 2)] [.obj [sv EN b0 nil0 capd0 l0, sv EN b1 nil1 capd1 l1, sv EN b2 nil2 capd2 l2], .obj [vi r0, vi r1, vi r2]]
                    (cast (And.intro (ob_pure (P := pg) (A := an) (H := [.obj [sv EN b0 nil0 capd0 l0, sv EN b1 nil1 capd1 l1, sv EN b2 nil2 capd2 l2], .obj [vi r0, vi r1, vi r2]]) (g := 7) (vals := [.y (.one (sv EN b2 nil2 capd2 l2))]) (xs0 := [.one (sv EN b2 nil2 capd2 l2)]) (xs1 := [.one (sv EN b2 nil2 capd2 l2)]) (res := [.one (vi ((half l2)))]) (ats := #[]) (ty := 0) (v := xi ((half l2))) [.tmp 0] (by kernel_rfl) (by kernel_rfl) (by kernel_rfl) (fn7 _ _ _ l2 (by omega)) (by kernel_rfl)) (And.intro (ob_raw (P := pg) (A := an) (vals := [xi ((half l2)), xi r2]) (H := [.obj [sv EN b0 nil0 capd0 l0, sv EN b1 nil1 capd1 l1, sv EN b2 nil2 capd2 l2], .obj [vi r0, vi r1, vi r2]]) (op := .call { callee := .builtin .min, args := #[.tmp 0, .tmp 1], argTypes := #[3, 3] }) (ty := 0) (r := xi (if (r2 : Int) < ((half l2)) then r2 else ((half l2)))) (v := xi ((half l2))) (by kernel_rfl) (congrArg (fun z => xi z) (if_neg (by omega)))) trivial)) (by kernel_rfl)) (by kernel_rfl) ?_
                  by_cases c52 : (0 : Int) < ((half l2))
                  ·
                    refine Wp.regionSeq [(1, xb true, [.obj [sv EN b0 nil0 capd0 l0, sv EN b1 nil1 capd1 l1, sv EN b2 nil2 capd2 l2], .obj [vi r0, vi r1, vi r2]])] [(2, .y (.one (.ptr 0 0))), (3, .y (.one (.ptr 1 0))), (9, xi 2), (10, xi ((half l2))), (18, xi 2), (30, xb true)] [.obj [sv EN b0 nil0 capd0 l0, sv EN b1 nil1 capd1 l1, sv EN b2 nil2 capd2 l2], .obj [vi r0, vi r1, vi r2]]
                      (cast (And.intro (ob_raw (P := pg) (A := an) (vals := [xi ((half l2)), xi 0]) (H := [.obj [sv EN b0 nil0 capd0 l0, sv EN b1 nil1 capd1 l1, sv EN b2 nil2 capd2 l2], .obj [vi r0, vi r1, vi r2]]) (op := .binOp .gtr 3 (.tmp 0) (.tmp 1) 3) (ty := 0) (r := xb (decide ((((half l2)) : Int) > 0))) (v := xb true) (by kernel_rfl) (congrArg (fun z => xb z) (decide_eq_true (by omega)))) trivial) (by kernel_rfl)) (by kernel_rfl) ?_
                    refine Wp.condT (by kernel_rfl) ?_
                    refine Wp.regionSeq [] [(4, xi 2), (5, xi ((half l2))), (6, xi 0)] [.obj [sv EN b0 nil0 capd0 l0, sv EN b1 nil1 capd1 l1, sv EN b2 nil2 capd2 l2], .obj [vi r0, vi r1, vi r2]]
                      (cast trivial (by kernel_rfl)) (by kernel_rfl) ?_
                    refine Wp.ret ?_
                    exact ⟨Or.inr rfl, [.one (vi 2), .one (vi ((half l2))), .one (vi 0)], by kernel_rfl, (by have hp : plan (half l0) (half l1) (half l2) r0 r1 r2 = (2, ((half l2)), 0) := by { unfold plan pick; repeat' first | rw [if_pos (by omega)] | rw [if_neg (by omega)] }; rw [hp]; rfl)⟩
                  ·
                    refine Wp.regionSeq [(1, xb false, [.obj [sv EN b0 nil0 capd0 l0, sv EN b1 nil1 capd1 l1, sv EN b2 nil2 capd2 l2], .obj [vi r0, vi r1, vi r2]])] [(2, .y (.one (.ptr 0 0))), (3, .y (.one (.ptr 1 0))), (9, xi 2), (10, xi ((half l2))), (18, xi 2), (30, xb false)] [.obj [sv EN b0 nil0 capd0 l0, sv EN b1 nil1 capd1 l1, sv EN b2 nil2 capd2 l2], .obj [vi r0, vi r1, vi r2]]
                      (cast (And.intro (ob_raw (P := pg) (A := an) (vals := [xi ((half l2)), xi 0]) (H := [.obj [sv EN b0 nil0 capd0 l0, sv EN b1 nil1 capd1 l1, sv EN b2 nil2 capd2 l2], .obj [vi r0, vi r1, vi r2]]) (op := .binOp .gtr 3 (.tmp 0) (.tmp 1) 3) (ty := 0) (r := xb (decide ((((half l2)) : Int) > 0))) (v := xb false) (by kernel_rfl) (congrArg (fun z => xb z) (decide_eq_false (by omega)))) trivial) (by kernel_rfl)) (by kernel_rfl) ?_
                    refine Wp.condF (by kernel_rfl) ?_
                    refine Wp.skip ?_
                    refine Wp.region [] [(2, .y (.one (.ptr 0 0))), (3, .y (.one (.ptr 1 0))), (18, xi 3)] [.obj [sv EN b0 nil0 capd0 l0, sv EN b1 nil1 capd1 l1, sv EN b2 nil2 capd2 l2], .obj [vi r0, vi r1, vi r2]]
                      (cast trivial (by kernel_rfl)) (by kernel_rfl) ?_
                    refine ⟨[(2, .y (.one (.ptr 0 0))), (3, .y (.one (.ptr 1 0))), (18, xi 3)], [.obj [sv EN b0 nil0 capd0 l0, sv EN b1 nil1 capd1 l1, sv EN b2 nil2 capd2 l2], .obj [vi r0, vi r1, vi r2]], by kernel_rfl, ?_⟩
                    refine WpL.step ?_
                    refine Wp.regionSeq [] [(2, .y (.one (.ptr 0 0))), (3, .y (.one (.ptr 1 0))), (18, xi 3), (19, xb false)] [.obj [sv EN b0 nil0 capd0 l0, sv EN b1 nil1 capd1 l1, sv EN b2 nil2 capd2 l2], .obj [vi r0, vi r1, vi r2]]
                      (cast trivial (by kernel_rfl)) (by kernel_rfl) ?_
                    refine Wp.seq ?_
                    refine Wp.condF (by kernel_rfl) ?_
                    refine Wp.exit ?_
                    refine Eq.mpr (if_pos rfl) ?_
                    refine Wp.regionSeq [] [(4, xi 0), (5, xi 0), (6, xi 3)] [.obj [sv EN b0 nil0 capd0 l0, sv EN b1 nil1 capd1 l1, sv EN b2 nil2 capd2 l2], .obj [vi r0, vi r1, vi r2]]
                      (cast trivial (by kernel_rfl)) (by kernel_rfl) ?_
                    refine Wp.ret ?_
                    exact ⟨Or.inr rfl, [.one (vi 0), .one (vi 0), .one (vi 3)], by kernel_rfl, (by have hp : plan (half l0) (half l1) (half l2) r0 r1 r2 = (0, 0, 3) := by { unfold plan pick; repeat' first | rw [if_pos (by omega)] | rw [if_neg (by omega)] }; rw [hp]; rfl)⟩
theorem fn12 (b0 nil0 capd0 b1 nil1 capd1 b2 nil2 capd2 : Bool) (l0 l1 l2 : List EN.T) (r0 r1 r2 : Int) (hl0 : (l0.length : Int) ≤ 4611686018427387904) (hl1 : (l1.length : Int) ≤ 4611686018427387904) (hl2 : (l2.length : Int) ≤ 4611686018427387904) : PureC pg an 12 [.agg [sv EN b0 nil0 capd0 l0, sv EN b1 nil1 capd1 l1, sv EN b2 nil2 capd2 l2], .agg [vi r0, vi r1, vi r2]] [.one (vi (plan (half l0) (half l1) (half l2) r0 r1 r2).1), .one (vi (plan (half l0) (half l1) (half l2) r0 r1 r2).2.1), .one (vi (plan (half l0) (half l1) (half l2) r0 r1 r2).2.2)] := by
  refine Runs.of (fn := Try.f12) Try.func12 rfl (by kernel_rfl) [(0, .y (.agg [sv EN b0 nil0 capd0 l0, sv EN b1 nil1 capd1 l1, sv EN b2 nil2 capd2 l2])), (1, .y (.agg [vi r0, vi r1, vi r2]))] (by kernel_rfl) ?_
  refine Wp.regionSeq [] [(2, .y (.one (.ptr 0 0))), (3, .y (.one (.ptr 1 0)))] [.obj [sv EN b0 nil0 capd0 l0, sv EN b1 nil1 capd1 l1, sv EN b2 nil2 capd2 l2], .obj [vi r0, vi r1, vi r2]]
    (cast trivial (by kernel_rfl)) (by kernel_rfl) ?_
  refine Wp.seq ?_
  refine Wp.regionSeq [] [(2, .y (.one (.ptr 0 0))), (3, .y (.one (.ptr 1 0))), (7, xi 0)] [.obj [sv EN b0 nil0 capd0 l0, sv EN b1 nil1 capd1 l1, sv EN b2 nil2 capd2 l2], .obj [vi r0, vi r1, vi r2]]
    (cast trivial (by kernel_rfl)) (by kernel_rfl) ?_
  refine Wp.block ?_
  refine Wp.loopU [(2, .y (.one (.ptr 0 0))), (3, .y (.one (.ptr 1 0))), (7, xi 0)] (some ([2, 3, 7], true)) 2 (by kernel_rfl) ?_
  refine WpL.step ?_
  refine Wp.seq ?_
  refine Wp.regionSeq [] [(2, .y (.one (.ptr 0 0))), (3, .y (.one (.ptr 1 0))), (7, xi 0), (11, xb true)] [.obj [sv EN b0 nil0 capd0 l0, sv EN b1 nil1 capd1 l1, sv EN b2 nil2 capd2 l2], .obj [vi r0, vi r1, vi r2]]
    (cast trivial (by kernel_rfl)) (by kernel_rfl) ?_
  refine Wp.condT (by kernel_rfl) ?_
  refine Wp.skip ?_
  refine Wp.seq ?_
  refine Wp.block ?_
  by_cases c1 : (r0 : Int) < 0
  ·
    refine Wp.regionSeq [(3, xb true, [.obj [sv EN b0 nil0 capd0 l0, sv EN b1 nil1 capd1 l1, sv EN b2 nil2 capd2 l2], .obj [vi r0, vi r1, vi r2]])] [(2, .y (.one (.ptr 0 0))), (3, .y (.one (.ptr 1 0))), (7, xi 0), (17, xb true)] [.obj [sv EN b0 nil0 capd0 l0, sv EN b1 nil1 capd1 l1, sv EN b2 nil2 capd2 l2], .obj [vi r0, vi r1, vi r2]]
      (cast (And.intro (ob_raw (P := pg) (A := an) (vals := [xi r0, xi 0]) (H := [.obj [sv EN b0 nil0 capd0 l0, sv EN b1 nil1 capd1 l1, sv EN b2 nil2 capd2 l2], .obj [vi r0, vi r1, vi r2]]) (op := .binOp .lss 3 (.tmp 0) (.tmp 1) 3) (ty := 0) (r := xb (decide ((r0 : Int) < 0))) (v := xb true) (by kernel_rfl) (congrArg (fun z => xb z) (decide_eq_true (by omega)))) trivial) (by kernel_rfl)) (by kernel_rfl) ?_
    refine Wp.condT (by kernel_rfl) ?_
    refine Wp.regionSeq [] [(4, xi 0), (5, xi 0), (6, xi 1)] [.obj [sv EN b0 nil0 capd0 l0, sv EN b1 nil1 capd1 l1, sv EN b2 nil2 capd2 l2], .obj [vi r0, vi r1, vi r2]]
      (cast trivial (by kernel_rfl)) (by kernel_rfl) ?_
    refine Wp.ret ?_
    exact ⟨Or.inr rfl, [.one (vi 0), .one (vi 0), .one (vi 1)], by kernel_rfl, (by have hp : plan (half l0) (half l1) (half l2) r0 r1 r2 = (0, 0, 1) := by { unfold plan pick; repeat' first | rw [if_pos (by omega)] | rw [if_neg (by omega)] }; rw [hp]; rfl)⟩
  ·
    refine Wp.regionSeq [(3, xb false, [.obj [sv EN b0 nil0 capd0 l0, sv EN b1 nil1 capd1 l1, sv EN b2 nil2 capd2 l2], .obj [vi r0, vi r1, vi r2]])] [(2, .y (.one (.ptr 0 0))), (3, .y (.one (.ptr 1 0))), (7, xi 0), (17, xb false)] [.obj [sv EN b0 nil0 capd0 l0, sv EN b1 nil1 capd1 l1, sv EN b2 nil2 capd2 l2], .obj [vi r0, vi r1, vi r2]]
      (cast (And.intro (ob_raw (P := pg) (A := an) (vals := [xi r0, xi 0]) (H := [.obj [sv EN b0 nil0 capd0 l0, sv EN b1 nil1 capd1 l1, sv EN b2 nil2 capd2 l2], .obj [vi r0, vi r1, vi r2]]) (op := .binOp .lss 3 (.tmp 0) (.tmp 1) 3) (ty := 0) (r := xb (decide ((r0 : Int) < 0))) (v := xb false) (by kernel_rfl) (congrArg (fun z => xb z) (decide_eq_false (by omega)))) trivial) (by kernel_rfl)) (by kernel_rfl) ?_
    refine Wp.condF (by kernel_rfl) ?_
    refine Wp.skip ?_
    refine Wp.region [] [(2, .y (.one (.ptr 0 0))), (3, .y (.one (.ptr 1 0))), (7, xi 1)] [.obj [sv EN b0 nil0 capd0 l0, sv EN b1 nil1 capd1 l1, sv EN b2 nil2 capd2 l2], .obj [vi r0, vi r1, vi r2]]
      (cast trivial (by kernel_rfl)) (by kernel_rfl) ?_
    refine ⟨[(2, .y (.one (.ptr 0 0))), (3, .y (.one (.ptr 1 0))), (7, xi 1)], [.obj [sv EN b0 nil0 capd0 l0, sv EN b1 nil1 capd1 l1, sv EN b2 nil2 capd2 l2], .obj [vi r0, vi r1, vi r2]], by kernel_rfl, ?_⟩
    refine WpL.step ?_
    refine Wp.seq ?_
    refine Wp.regionSeq [] [(2, .y (.one (.ptr 0 0))), (3, .y (.one (.ptr 1 0))), (7, xi 1), (11, xb true)] [.obj [sv EN b0 nil0 capd0 l0, sv EN b1 nil1 capd1 l1, sv EN b2 nil2 capd2 l2], .obj [vi r0, vi r1, vi r2]]
      (cast trivial (by kernel_rfl)) (by kernel_rfl) ?_
    refine Wp.condT (by kernel_rfl) ?_
    refine Wp.skip ?_
    refine Wp.seq ?_
    refine Wp.block ?_
    by_cases c2 : (r1 : Int) < 0
    ·
      refine Wp.regionSeq [(3, xb true, [.obj [sv EN b0 nil0 capd0 l0, sv EN b1 nil1 capd1 l1, sv EN b2 nil2 capd2 l2], .obj [vi r0, vi r1, vi r2]])] [(2, .y (.one (.ptr 0 0))), (3, .y (.one (.ptr 1 0))), (7, xi 1), (17, xb true)] [.obj [sv EN b0 nil0 capd0 l0, sv EN b1 nil1 capd1 l1, sv EN b2 nil2 capd2 l2], .obj [vi r0, vi r1, vi r2]]
        (cast (And.intro (ob_raw (P := pg) (A := an) (vals := [xi r1, xi 0]) (H := [.obj [sv EN b0 nil0 capd0 l0, sv EN b1 nil1 capd1 l1, sv EN b2 nil2 capd2 l2], .obj [vi r0, vi r1, vi r2]]) (op := .binOp .lss 3 (.tmp 0) (.tmp 1) 3) (ty := 0) (r := xb (decide ((r1 : Int) < 0))) (v := xb true) (by kernel_rfl) (congrArg (fun z => xb z) (decide_eq_true (by omega)))) trivial) (by kernel_rfl)) (by kernel_rfl) ?_
      refine Wp.condT (by kernel_rfl) ?_
      refine Wp.regionSeq [] [(4, xi 0), (5, xi 0), (6, xi 1)] [.obj [sv EN b0 nil0 capd0 l0, sv EN b1 nil1 capd1 l1, sv EN b2 nil2 capd2 l2], .obj [vi r0, vi r1, vi r2]]
        (cast trivial (by kernel_rfl)) (by kernel_rfl) ?_
      refine Wp.ret ?_
      exact ⟨Or.inr rfl, [.one (vi 0), .one (vi 0), .one (vi 1)], by kernel_rfl, (by have hp : plan (half l0) (half l1) (half l2) r0 r1 r2 = (0, 0, 1) := by { unfold plan pick; repeat' first | rw [if_pos (by omega)] | rw [if_neg (by omega)] }; rw [hp]; rfl)⟩
    ·
      refine Wp.regionSeq [(3, xb false, [.obj [sv EN b0 nil0 capd0 l0, sv EN b1 nil1 capd1 l1, sv EN b2 nil2 capd2 l2], .obj [vi r0, vi r1, vi r2]])] [(2, .y (.one (.ptr 0 0))), (3, .y (.one (.ptr 1 0))), (7, xi 1), (17, xb false)] [.obj [sv EN b0 nil0 capd0 l0, sv EN b1 nil1 capd1 l1, sv EN b2 nil2 capd2 l2], .obj [vi r0, vi r1, vi r2]]
        (cast (And.intro (ob_raw (P := pg) (A := an) (vals := [xi r1, xi 0]) (H := [.obj [sv EN b0 nil0 capd0 l0, sv EN b1 nil1 capd1 l1, sv EN b2 nil2 capd2 l2], .obj [vi r0, vi r1, vi r2]]) (op := .binOp .lss 3 (.tmp 0) (.tmp 1) 3) (ty := 0) (r := xb (decide ((r1 : Int) < 0))) (v := xb false) (by kernel_rfl) (congrArg (fun z => xb z) (decide_eq_false (by omega)))) trivial) (by kernel_rfl)) (by kernel_rfl) ?_
      refine Wp.condF (by kernel_rfl) ?_
      refine Wp.skip ?_
      refine Wp.region [] [(2, .y (.one (.ptr 0 0))), (3, .y (.one (.ptr 1 0))), (7, xi 2)] [.obj [sv EN b0 nil0 capd0 l0, sv EN b1 nil1 capd1 l1, sv EN b2 nil2 capd2 l2], .obj [vi r0, vi r1, vi r2]]
        (cast trivial (by kernel_rfl)) (by kernel_rfl) ?_
      refine ⟨[(2, .y (.one (.ptr 0 0))), (3, .y (.one (.ptr 1 0))), (7, xi 2)], [.obj [sv EN b0 nil0 capd0 l0, sv EN b1 nil1 capd1 l1, sv EN b2 nil2 capd2 l2], .obj [vi r0, vi r1, vi r2]], by kernel_rfl, ?_⟩
      refine WpL.step ?_
      refine Wp.seq ?_
      refine Wp.regionSeq [] [(2, .y (.one (.ptr 0 0))), (3, .y (.one (.ptr 1 0))), (7, xi 2), (11, xb true)] [.obj [sv EN b0 nil0 capd0 l0, sv EN b1 nil1 capd1 l1, sv EN b2 nil2 capd2 l2], .obj [vi r0, vi r1, vi r2]]
        (cast trivial (by kernel_rfl)) (by kernel_rfl) ?_
      refine Wp.condT (by kernel_rfl) ?_
      refine Wp.skip ?_
      refine Wp.seq ?_
      refine Wp.block ?_
      by_cases c3 : (r2 : Int) < 0
      ·
        refine Wp.regionSeq [(3, xb true, [.obj [sv EN b0 nil0 capd0 l0, sv EN b1 nil1 capd1 l1, sv EN b2 nil2 capd2 l2], .obj [vi r0, vi r1, vi r2]])] [(2, .y (.one (.ptr 0 0))), (3, .y (.one (.ptr 1 0))), (7, xi 2), (17, xb true)] [.obj [sv EN b0 nil0 capd0 l0, sv EN b1 nil1 capd1 l1, sv EN b2 nil2 capd2 l2], .obj [vi r0, vi r1, vi r2]]
          (cast (And.intro (ob_raw (P := pg) (A := an) (vals := [xi r2, xi 0]) (H := [.obj [sv EN b0 nil0 capd0 l0, sv EN b1 nil1 capd1 l1, sv EN b2 nil2 capd2 l2], .obj [vi r0, vi r1, vi r2]]) (op := .binOp .lss 3 (.tmp 0) (.tmp 1) 3) (ty := 0) (r := xb (decide ((r2 : Int) < 0))) (v := xb true) (by kernel_rfl) (congrArg (fun z => xb z) (decide_eq_true (by omega)))) trivial) (by kernel_rfl)) (by kernel_rfl) ?_
        refine Wp.condT (by kernel_rfl) ?_
        refine Wp.regionSeq [] [(4, xi 0), (5, xi 0), (6, xi 1)] [.obj [sv EN b0 nil0 capd0 l0, sv EN b1 nil1 capd1 l1, sv EN b2 nil2 capd2 l2], .obj [vi r0, vi r1, vi r2]]
          (cast trivial (by kernel_rfl)) (by kernel_rfl) ?_
        refine Wp.ret ?_
        exact ⟨Or.inr rfl, [.one (vi 0), .one (vi 0), .one (vi 1)], by kernel_rfl, (by have hp : plan (half l0) (half l1) (half l2) r0 r1 r2 = (0, 0, 1) := by { unfold plan pick; repeat' first | rw [if_pos (by omega)] | rw [if_neg (by omega)] }; rw [hp]; rfl)⟩
      ·
        refine Wp.regionSeq [(3, xb false, [.obj [sv EN b0 nil0 capd0 l0, sv EN b1 nil1 capd1 l1, sv EN b2 nil2 capd2 l2], .obj [vi r0, vi r1, vi r2]])] [(2, .y (.one (.ptr 0 0))), (3, .y (.one (.ptr 1 0))), (7, xi 2), (17, xb false)] [.obj [sv EN b0 nil0 capd0 l0, sv EN b1 nil1 capd1 l1, sv EN b2 nil2 capd2 l2], .obj [vi r0, vi r1, vi r2]]
          (cast (And.intro (ob_raw (P := pg) (A := an) (vals := [xi r2, xi 0]) (H := [.obj [sv EN b0 nil0 capd0 l0, sv EN b1 nil1 capd1 l1, sv EN b2 nil2 capd2 l2], .obj [vi r0, vi r1, vi r2]]) (op := .binOp .lss 3 (.tmp 0) (.tmp 1) 3) (ty := 0) (r := xb (decide ((r2 : Int) < 0))) (v := xb false) (by kernel_rfl) (congrArg (fun z => xb z) (decide_eq_false (by omega)))) trivial) (by kernel_rfl)) (by kernel_rfl) ?_
        refine Wp.condF (by kernel_rfl) ?_
        refine Wp.skip ?_
        refine Wp.region [] [(2, .y (.one (.ptr 0 0))), (3, .y (.one (.ptr 1 0))), (7, xi 3)] [.obj [sv EN b0 nil0 capd0 l0, sv EN b1 nil1 capd1 l1, sv EN b2 nil2 capd2 l2], .obj [vi r0, vi r1, vi r2]]
          (cast trivial (by kernel_rfl)) (by kernel_rfl) ?_
        refine ⟨[(2, .y (.one (.ptr 0 0))), (3, .y (.one (.ptr 1 0))), (7, xi 3)], [.obj [sv EN b0 nil0 capd0 l0, sv EN b1 nil1 capd1 l1, sv EN b2 nil2 capd2 l2], .obj [vi r0, vi r1, vi r2]], by kernel_rfl, ?_⟩
        refine WpL.step ?_
        refine Wp.seq ?_
        refine Wp.regionSeq [] [(2, .y (.one (.ptr 0 0))), (3, .y (.one (.ptr 1 0))), (7, xi 3), (11, xb false)] [.obj [sv EN b0 nil0 capd0 l0, sv EN b1 nil1 capd1 l1, sv EN b2 nil2 capd2 l2], .obj [vi r0, vi r1, vi r2]]
          (cast trivial (by kernel_rfl)) (by kernel_rfl) ?_
        refine Wp.condF (by kernel_rfl) ?_
        refine Wp.exit ?_
        refine Eq.mpr (if_pos rfl) ?_
        refine Wp.seq ?_
        refine Wp.regionSeq [] [(2, .y (.one (.ptr 0 0))), (3, .y (.one (.ptr 1 0))), (8, xi 0)] [.obj [sv EN b0 nil0 capd0 l0, sv EN b1 nil1 capd1 l1, sv EN b2 nil2 capd2 l2], .obj [vi r0, vi r1, vi r2]]
          (cast trivial (by kernel_rfl)) (by kernel_rfl) ?_
        refine Wp.block ?_
        refine Wp.loopU [(2, .y (.one (.ptr 0 0))), (3, .y (.one (.ptr 1 0))), (8, xi 0)] (some ([2, 3, 8], true)) 2 (by kernel_rfl) ?_
        refine WpL.step ?_
        refine Wp.seq ?_
        refine Wp.regionSeq [] [(2, .y (.one (.ptr 0 0))), (3, .y (.one (.ptr 1 0))), (8, xi 0), (19, xb true)] [.obj [sv EN b0 nil0 capd0 l0, sv EN b1 nil1 capd1 l1, sv EN b2 nil2 capd2 l2], .obj [vi r0, vi r1, vi r2]]
          (cast trivial (by kernel_rfl)) (by kernel_rfl) ?_
        refine Wp.condT (by kernel_rfl) ?_
        refine Wp.skip ?_
        refine Wp.seq ?_
        refine Wp.block ?_
        have hhz4 := half_is (l0)
        refine Wp.regionSeq [(3, xi ((half l0)), [.obj [sv EN b0 nil0 capd0 l0, sv EN b1 nil1 capd1 l1, sv EN b2 nil2 capd2 l2], .obj [vi r0, vi r1, vi r2]])] [(2, .y (.one (.ptr 0 0))), (3, .y (.one (.ptr 1 0))), (8, xi 0), (9, xi ((half l0)))] [.obj [sv EN b0 nil0 capd0 l0, sv EN b1 nil1 capd1 l1, sv EN b2 nil2 capd2 l2], .obj [vi r0, vi r1, vi r2]]
          (cast (And.intro (ob_pure (P := pg) (A := an) (H := [.obj [sv EN b0 nil0 capd0 l0, sv EN b1 nil1 capd1 l1, sv EN b2 nil2 capd2 l2], .obj [vi r0, vi r1, vi r2]]) (g := 8) (vals := [.y (.one (sv EN b0 nil0 capd0 l0))]) (xs0 := [.one (sv EN b0 nil0 capd0 l0)]) (xs1 := [.one (sv EN b0 nil0 capd0 l0)]) (res := [.one (vi ((half l0)))]) (ats := #[]) (ty := 0) (v := xi ((half l0))) [.tmp 0] (by kernel_rfl) (by kernel_rfl) (by kernel_rfl) (fn8 _ _ _ l0 (by omega)) (by kernel_rfl)) trivial) (by kernel_rfl)) (by kernel_rfl) ?_
        refine Wp.seq ?_
        by_cases c6 : (r0 : Int) < ((half l0))
        ·
          refine Wp.regionSeq [(4, xb true, [.obj [sv EN b0 nil0 capd0 l0, sv EN b1 nil1 capd1 l1, sv EN b2 nil2 capd2 l2], .obj [vi r0, vi r1, vi r2]])] [(2, .y (.one (.ptr 0 0))), (3, .y (.one (.ptr 1 0))), (8, xi 0), (9, xi ((half l0))), (30, xb true)] [.obj [sv EN b0 nil0 capd0 l0, sv EN b1 nil1 capd1 l1, sv EN b2 nil2 capd2 l2], .obj [vi r0, vi r1, vi r2]]
            (cast (And.intro (ob_raw (P := pg) (A := an) (vals := [xi ((half l0)), xi r0]) (H := [.obj [sv EN b0 nil0 capd0 l0, sv EN b1 nil1 capd1 l1, sv EN b2 nil2 capd2 l2], .obj [vi r0, vi r1, vi r2]]) (op := .binOp .gtr 3 (.tmp 0) (.tmp 1) 3) (ty := 0) (r := xb (decide ((((half l0)) : Int) > r0))) (v := xb true) (by kernel_rfl) (congrArg (fun z => xb z) (decide_eq_true (by omega)))) trivial) (by kernel_rfl)) (by kernel_rfl) ?_
          refine Wp.condT (by kernel_rfl) ?_
          refine Wp.region [] [(2, .y (.one (.ptr 0 0))), (3, .y (.one (.ptr 1 0))), (8, xi 0), (9, xi r0)] [.obj [sv EN b0 nil0 capd0 l0, sv EN b1 nil1 capd1 l1, sv EN b2 nil2 capd2 l2], .obj [vi r0, vi r1, vi r2]]
            (cast trivial (by kernel_rfl)) (by kernel_rfl) ?_
          by_cases c7 : (0 : Int) < r0
          ·
            refine Wp.regionSeq [(1, xb true, [.obj [sv EN b0 nil0 capd0 l0, sv EN b1 nil1 capd1 l1, sv EN b2 nil2 capd2 l2], .obj [vi r0, vi r1, vi r2]])] [(2, .y (.one (.ptr 0 0))), (3, .y (.one (.ptr 1 0))), (8, xi 0), (9, xi r0), (35, xb true)] [.obj [sv EN b0 nil0 capd0 l0, sv EN b1 nil1 capd1 l1, sv EN b2 nil2 capd2 l2], .obj [vi r0, vi r1, vi r2]]
              (cast (And.intro (ob_raw (P := pg) (A := an) (vals := [xi r0, xi 0]) (H := [.obj [sv EN b0 nil0 capd0 l0, sv EN b1 nil1 capd1 l1, sv EN b2 nil2 capd2 l2], .obj [vi r0, vi r1, vi r2]]) (op := .binOp .gtr 3 (.tmp 0) (.tmp 1) 3) (ty := 0) (r := xb (decide ((r0 : Int) > 0))) (v := xb true) (by kernel_rfl) (congrArg (fun z => xb z) (decide_eq_true (by omega)))) trivial) (by kernel_rfl)) (by kernel_rfl) ?_
            refine Wp.condT (by kernel_rfl) ?_
            refine Wp.regionSeq [] [(4, xi 0), (5, xi r0), (6, xi 0)] [.obj [sv EN b0 nil0 capd0 l0, sv EN b1 nil1 capd1 l1, sv EN b2 nil2 capd2 l2], .obj [vi r0, vi r1, vi r2]]
              (cast trivial (by kernel_rfl)) (by kernel_rfl) ?_
            refine Wp.ret ?_
            exact ⟨Or.inr rfl, [.one (vi 0), .one (vi r0), .one (vi 0)], by kernel_rfl, (by have hp : plan (half l0) (half l1) (half l2) r0 r1 r2 = (0, r0, 0) := by { unfold plan pick; repeat' first | rw [if_pos (by omega)] | rw [if_neg (by omega)] }; rw [hp]; rfl)⟩
          ·
            refine Wp.regionSeq [(1, xb false, [.obj [sv EN b0 nil0 capd0 l0, sv EN b1 nil1 capd1 l1, sv EN b2 nil2 capd2 l2], .obj [vi r0, vi r1, vi r2]])] [(2, .y (.one (.ptr 0 0))), (3, .y (.one (.ptr 1 0))), (8, xi 0), (9, xi r0), (35, xb false)] [.obj [sv EN b0 nil0 capd0 l0, sv EN b1 nil1 capd1 l1, sv EN b2 nil2 capd2 l2], .obj [vi r0, vi r1, vi r2]]
              (cast (And.intro (ob_raw (P := pg) (A := an) (vals := [xi r0, xi 0]) (H := [.obj [sv EN b0 nil0 capd0 l0, sv EN b1 nil1 capd1 l1, sv EN b2 nil2 capd2 l2], .obj [vi r0, vi r1, vi r2]]) (op := .binOp .gtr 3 (.tmp 0) (.tmp 1) 3) (ty := 0) (r := xb (decide ((r0 : Int) > 0))) (v := xb false) (by kernel_rfl) (congrArg (fun z => xb z) (decide_eq_false (by omega)))) trivial) (by kernel_rfl)) (by kernel_rfl) ?_
            refine Wp.condF (by kernel_rfl) ?_
            refine Wp.skip ?_
            refine Wp.region [] [(2, .y (.one (.ptr 0 0))), (3, .y (.one (.ptr 1 0))), (8, xi 1)] [.obj [sv EN b0 nil0 capd0 l0, sv EN b1 nil1 capd1 l1, sv EN b2 nil2 capd2 l2], .obj [vi r0, vi r1, vi r2]]
              (cast trivial (by kernel_rfl)) (by kernel_rfl) ?_
            refine ⟨[(2, .y (.one (.ptr 0 0))), (3, .y (.one (.ptr 1 0))), (8, xi 1)], [.obj [sv EN b0 nil0 capd0 l0, sv EN b1 nil1 capd1 l1, sv EN b2 nil2 capd2 l2], .obj [vi r0, vi r1, vi r2]], by kernel_rfl, ?_⟩
            refine WpL.step ?_
            refine Wp.seq ?_
            refine Wp.regionSeq [] [(2, .y (.one (.ptr 0 0))), (3, .y (.one (.ptr 1 0))), (8, xi 1), (19, xb true)] [.obj [sv EN b0 nil0 capd0 l0, sv EN b1 nil1 capd1 l1, sv EN b2 nil2 capd2 l2], .obj [vi r0, vi r1, vi r2]]
              (cast trivial (by kernel_rfl)) (by kernel_rfl) ?_
            refine Wp.condT (by kernel_rfl) ?_
            refine Wp.skip ?_
            refine Wp.seq ?_
            refine Wp.block ?_
            have hhz8 := half_is (l1)
            refine Wp.regionSeq [(3, xi ((half l1)), [.obj [sv EN b0 nil0 capd0 l0, sv EN b1 nil1 capd1 l1, sv EN b2 nil2 capd2 l2], .obj [vi r0, vi r1, vi r2]])] [(2, .y (.one (.ptr 0 0))), (3, .y (.one (.ptr 1 0))), (8, xi 1), (9, xi ((half l1)))] [.obj [sv EN b0 nil0 capd0 l0, sv EN b1 nil1 capd1 l1, sv EN b2 nil2 capd2 l2], .obj [vi r0, vi r1, vi r2]]
              (cast (And.intro (ob_pure (P := pg) (A := an) (H := [.obj [sv EN b0 nil0 capd0 l0, sv EN b1 nil1 capd1 l1, sv EN b2 nil2 capd2 l2], .obj [vi r0, vi r1, vi r2]]) (g := 8) (vals := [.y (.one (sv EN b1 nil1 capd1 l1))]) (xs0 := [.one (sv EN b1 nil1 capd1 l1)]) (xs1 := [.one (sv EN b1 nil1 capd1 l1)]) (res := [.one (vi ((half l1)))]) (ats := #[]) (ty := 0) (v := xi ((half l1))) [.tmp 0] (by kernel_rfl) (by kernel_rfl) (by kernel_rfl) (fn8 _ _ _ l1 (by omega)) (by kernel_rfl)) trivial) (by kernel_rfl)) (by kernel_rfl) ?_
            refine Wp.seq ?_
            by_cases c10 : (r1 : Int) < ((half l1))
            ·
              refine Wp.regionSeq [(4, xb true, [.obj [sv EN b0 nil0 capd0 l0, sv EN b1 nil1 capd1 l1, sv EN b2 nil2 capd2 l2], .obj [vi r0, vi r1, vi r2]])] [(2, .y (.one (.ptr 0 0))), (3, .y (.one (.ptr 1 0))), (8, xi 1), (9, xi ((half l1))), (30, xb true)] [.obj [sv EN b0 nil0 capd0 l0, sv EN b1 nil1 capd1 l1, sv EN b2 nil2 capd2 l2], .obj [vi r0, vi r1, vi r2]]
                (cast (And.intro (ob_raw (P := pg) (A := an) (vals := [xi ((half l1)), xi r1]) (H := [.obj [sv EN b0 nil0 capd0 l0, sv EN b1 nil1 capd1 l1, sv EN b2 nil2 capd2 l2], .obj [vi r0, vi r1, vi r2]]) (op := .binOp .gtr 3 (.tmp 0) (.tmp 1) 3) (ty := 0) (r := xb (decide ((((half l1)) : Int) > r1))) (v := xb true) (by kernel_rfl) (congrArg (fun z => xb z) (decide_eq_true (by omega)))) trivial) (by kernel_rfl)) (by kernel_rfl) ?_
              refine Wp.condT (by kernel_rfl) ?_
              refine Wp.region [] [(2, .y (.one (.ptr 0 0))), (3, .y (.one (.ptr 1 0))), (8, xi 1), (9, xi r1)] [.obj [sv EN b0 nil0 capd0 l0, sv EN b1 nil1 capd1 l1, sv EN b2 nil2 capd2 l2], .obj [vi r0, vi r1, vi r2]]
                (cast trivial (by kernel_rfl)) (by kernel_rfl) ?_
              by_cases c11 : (0 : Int) < r1
              ·
                refine Wp.regionSeq [(1, xb true, [.obj [sv EN b0 nil0 capd0 l0, sv EN b1 nil1 capd1 l1, sv EN b2 nil2 capd2 l2], .obj [vi r0, vi r1, vi r2]])] [(2, .y (.one (.ptr 0 0))), (3, .y (.one (.ptr 1 0))), (8, xi 1), (9, xi r1), (35, xb true)] [.obj [sv EN b0 nil0 capd0 l0, sv EN b1 nil1 capd1 l1, sv EN b2 nil2 capd2 l2], .obj [vi r0, vi r1, vi r2]]
                  (cast (And.intro (ob_raw (P := pg) (A := an) (vals := [xi r1, xi 0]) (H := [.obj [sv EN b0 nil0 capd0 l0, sv EN b1 nil1 capd1 l1, sv EN b2 nil2 capd2 l2], .obj [vi r0, vi r1, vi r2]]) (op := .binOp .gtr 3 (.tmp 0) (.tmp 1) 3) (ty := 0) (r := xb (decide ((r1 : Int) > 0))) (v := xb true) (by kernel_rfl) (congrArg (fun z => xb z) (decide_eq_true (by omega)))) trivial) (by kernel_rfl)) (by kernel_rfl) ?_
                refine Wp.condT (by kernel_rfl) ?_
                refine Wp.regionSeq [] [(4, xi 1), (5, xi r1), (6, xi 0)] [.obj [sv EN b0 nil0 capd0 l0, sv EN b1 nil1 capd1 l1, sv EN b2 nil2 capd2 l2], .obj [vi r0, vi r1, vi r2]]
                  (cast trivial (by kernel_rfl)) (by kernel_rfl) ?_
                refine Wp.ret ?_
                exact ⟨Or.inr rfl, [.one (vi 1), .one (vi r1), .one (vi 0)], by kernel_rfl, (by have hp : plan (half l0) (half l1) (half l2) r0 r1 r2 = (1, r1, 0) := by { unfold plan pick; repeat' first | rw [if_pos (by omega)] | rw [if_neg (by omega)] }; rw [hp]; rfl)⟩
              ·
                refine Wp.regionSeq [(1, xb false, [.obj [sv EN b0 nil0 capd0 l0, sv EN b1 nil1 capd1 l1, sv EN b2 nil2 capd2 l2], .obj [vi r0, vi r1, vi r2]])] [(2, .y (.one (.ptr 0 0))), (3, .y (.one (.ptr 1 0))), (8, xi 1), (9, xi r1), (35, xb false)] [.obj [sv EN b0 nil0 capd0 l0, sv EN b1 nil1 capd1 l1, sv EN b2 nil2 capd2 l2], .obj [vi r0, vi r1, vi r2]]
                  (cast (And.intro (ob_raw (P := pg) (A := an) (vals := [xi r1, xi 0]) (H := [.obj [sv EN b0 nil0 capd0 l0, sv EN b1 nil1 capd1 l1, sv EN b2 nil2 capd2 l2], .obj [vi r0, vi r1, vi r2]]) (op := .binOp .gtr 3 (.tmp 0) (.tmp 1) 3) (ty := 0) (r := xb (decide ((r1 : Int) > 0))) (v := xb false) (by kernel_rfl) (congrArg (fun z => xb z) (decide_eq_false (by omega)))) trivial) (by kernel_rfl)) (by kernel_rfl) ?_
                refine Wp.condF (by kernel_rfl) ?_
                refine Wp.skip ?_
                refine Wp.region [] [(2, .y (.one (.ptr 0 0))), (3, .y (.one (.ptr 1 0))), (8, xi 2)] [.obj [sv EN b0 nil0 capd0 l0, sv EN b1 nil1 capd1 l1, sv EN b2 nil2 capd2 l2], .obj [vi r0, vi r1, vi r2]]
                  (cast trivial (by kernel_rfl)) (by kernel_rfl) ?_
                refine ⟨[(2, .y (.one (.ptr 0 0))), (3, .y (.one (.ptr 1 0))), (8, xi 2)], [.obj [sv EN b0 nil0 capd0 l0, sv EN b1 nil1 capd1 l1, sv EN b2 nil2 capd2 l2], .obj [vi r0, vi r1, vi r2]], by kernel_rfl, ?_⟩
                refine WpL.step ?_
                refine Wp.seq ?_
                refine Wp.regionSeq [] [(2, .y (.one (.ptr 0 0))), (3, .y (.one (.ptr 1 0))), (8, xi 2), (19, xb true)] [.obj [sv EN b0 nil0 capd0 l0, sv EN b1 nil1 capd1 l1, sv EN b2 nil2 capd2 l2], .obj [vi r0, vi r1, vi r2]]
                  (cast trivial (by kernel_rfl)) (by kernel_rfl) ?_
                refine Wp.condT (by kernel_rfl) ?_
                refine Wp.skip ?_
                refine Wp.seq ?_
                refine Wp.block ?_
                have hhz12 := half_is (l2)
                refine Wp.regionSeq [(3, xi ((half l2)), [.obj [sv EN b0 nil0 capd0 l0, sv EN b1 nil1 capd1 l1, sv EN b2 nil2 capd2 l2], .obj [vi r0, vi r1, vi r2]])] [(2, .y (.one (.ptr 0 0))), (3, .y (.one (.ptr 1 0))), (8, xi 2), (9, xi ((half l2)))] [.obj [sv EN b0 nil0 capd0 l0, sv EN b1 nil1 capd1 l1, sv EN b2 nil2 capd2 l2], .obj [vi r0, vi r1, vi r2]]
                  (cast (And.intro (ob_pure (P := pg) (A := an) (H := [.obj [sv EN b0 nil0 capd0 l0, sv EN b1 nil1 capd1 l1, sv EN b2 nil2 capd2 l2], .obj [vi r0, vi r1, vi r2]]) (g := 8) (vals := [.y (.one (sv EN b2 nil2 capd2 l2))]) (xs0 := [.one (sv EN b2 nil2 capd2 l2)]) (xs1 := [.one (sv EN b2 nil2 capd2 l2)]) (res := [.one (vi ((half l2)))]) (ats := #[]) (ty := 0) (v := xi ((half l2))) [.tmp 0] (by kernel_rfl) (by kernel_rfl) (by kernel_rfl) (fn8 _ _ _ l2 (by omega)) (by kernel_rfl)) trivial) (by kernel_rfl)) (by kernel_rfl) ?_
                refine Wp.seq ?_
                by_cases c14 : (r2 : Int) < ((half l2))
                ·
                  refine Wp.regionSeq [(4, xb true, [.obj [sv EN b0 nil0 capd0 l0, sv EN b1 nil1 capd1 l1, sv EN b2 nil2 capd2 l2], .obj [vi r0, vi r1, vi r2]])] [(2, .y (.one (.ptr 0 0))), (3, .y (.one (.ptr 1 0))), (8, xi 2), (9, xi ((half l2))), (30, xb true)] [.obj [sv EN b0 nil0 capd0 l0, sv EN b1 nil1 capd1 l1, sv EN b2 nil2 capd2 l2], .obj [vi r0, vi r1, vi r2]]
                    (cast (And.intro (ob_raw (P := pg) (A := an) (vals := [xi ((half l2)), xi r2]) (H := [.obj [sv EN b0 nil0 capd0 l0, sv EN b1 nil1 capd1 l1, sv EN b2 nil2 capd2 l2], .obj [vi r0, vi r1, vi r2]]) (op := .binOp .gtr 3 (.tmp 0) (.tmp 1) 3) (ty := 0) (r := xb (decide ((((half l2)) : Int) > r2))) (v := xb true) (by kernel_rfl) (congrArg (fun z => xb z) (decide_eq_true (by omega)))) trivial) (by kernel_rfl)) (by kernel_rfl) ?_
                  refine Wp.condT (by kernel_rfl) ?_
                  refine Wp.region [] [(2, .y (.one (.ptr 0 0))), (3, .y (.one (.ptr 1 0))), (8, xi 2), (9, xi r2)] [.obj [sv EN b0 nil0 capd0 l0, sv EN b1 nil1 capd1 l1, sv EN b2 nil2 capd2 l2], .obj [vi r0, vi r1, vi r2]]
                    (cast trivial (by kernel_rfl)) (by kernel_rfl) ?_
                  by_cases c15 : (0 : Int) < r2
                  ·
                    refine Wp.regionSeq [(1, xb true, [.obj [sv EN b0 nil0 capd0 l0, sv EN b1 nil1 capd1 l1, sv EN b2 nil2 capd2 l2], .obj [vi r0, vi r1, vi r2]])] [(2, .y (.one (.ptr 0 0))), (3, .y (.one (.ptr 1 0))), (8, xi 2), (9, xi r2), (35, xb true)] [.obj [sv EN b0 nil0 capd0 l0, sv EN b1 nil1 capd1 l1, sv EN b2 nil2 capd2 l2], .obj [vi r0, vi r1, vi r2]]
                      (cast (And.intro (ob_raw (P := pg) (A := an) (vals := [xi r2, xi 0]) (H := [.obj [sv EN b0 nil0 capd0 l0, sv EN b1 nil1 capd1 l1, sv EN b2 nil2 capd2 l2], .obj [vi r0, vi r1, vi r2]]) (op := .binOp .gtr 3 (.tmp 0) (.tmp 1) 3) (ty := 0) (r := xb (decide ((r2 : Int) > 0))) (v := xb true) (by kernel_rfl) (congrArg (fun z => xb z) (decide_eq_true (by omega)))) trivial) (by kernel_rfl)) (by kernel_rfl) ?_
                    refine Wp.condT (by kernel_rfl) ?_
                    refine Wp.regionSeq [] [(4, xi 2), (5, xi r2), (6, xi 0)] [.obj [sv EN b0 nil0 capd0 l0, sv EN b1 nil1 capd1 l1, sv EN b2 nil2 capd2 l2], .obj [vi r0, vi r1, vi r2]]
                      (cast trivial (by kernel_rfl)) (by kernel_rfl) ?_
                    refine Wp.ret ?_
                    exact ⟨Or.inr rfl, [.one (vi 2), .one (vi r2), .one (vi 0)], by kernel_rfl, (by have hp : plan (half l0) (half l1) (half l2) r0 r1 r2 = (2, r2, 0) := by { unfold plan pick; repeat' first | rw [if_pos (by omega)] | rw [if_neg (by omega)] }; rw [hp]; rfl)⟩
                  ·
                    refine Wp.regionSeq [(1, xb false, [.obj [sv EN b0 nil0 capd0 l0, sv EN b1 nil1 capd1 l1, sv EN b2 nil2 capd2 l2], .obj [vi r0, vi r1, vi r2]])] [(2, .y (.one (.ptr 0 0))), (3, .y (.one (.ptr 1 0))), (8, xi 2), (9, xi r2), (35, xb false)] [.obj [sv EN b0 nil0 capd0 l0, sv EN b1 nil1 capd1 l1, sv EN b2 nil2 capd2 l2], .obj [vi r0, vi r1, vi r2]]
                      (cast (And.intro (ob_raw (P := pg) (A := an) (vals := [xi r2, xi 0]) (H := [.obj [sv EN b0 nil0 capd0 l0, sv EN b1 nil1 capd1 l1, sv EN b2 nil2 capd2 l2], .obj [vi r0, vi r1, vi r2]]) (op := .binOp .gtr 3 (.tmp 0) (.tmp 1) 3) (ty := 0) (r := xb (decide ((r2 : Int) > 0))) (v := xb false) (by kernel_rfl) (congrArg (fun z => xb z) (decide_eq_false (by omega)))) trivial) (by kernel_rfl)) (by kernel_rfl) ?_
                    refine Wp.condF (by kernel_rfl) ?_
                    refine Wp.skip ?_
                    refine Wp.region [] [(2, .y (.one (.ptr 0 0))), (3, .y (.one (.ptr 1 0))), (8, xi 3)] [.obj [sv EN b0 nil0 capd0 l0, sv EN b1 nil1 capd1 l1, sv EN b2 nil2 capd2 l2], .obj [vi r0, vi r1, vi r2]]
                      (cast trivial (by kernel_rfl)) (by kernel_rfl) ?_
                    refine ⟨[(2, .y (.one (.ptr 0 0))), (3, .y (.one (.ptr 1 0))), (8, xi 3)], [.obj [sv EN b0 nil0 capd0 l0, sv EN b1 nil1 capd1 l1, sv EN b2 nil2 capd2 l2], .obj [vi r0, vi r1, vi r2]], by kernel_rfl, ?_⟩
                    refine WpL.step ?_
                    refine Wp.seq ?_
                    refine Wp.regionSeq [] [(2, .y (.one (.ptr 0 0))), (3, .y (.one (.ptr 1 0))), (8, xi 3), (19, xb false)] [.obj [sv EN b0 nil0 capd0 l0, sv EN b1 nil1 capd1 l1, sv EN b2 nil2 capd2 l2], .obj [vi r0, vi r1, vi r2]]
                      (cast trivial (by kernel_rfl)) (by kernel_rfl) ?_
                    refine Wp.condF (by kernel_rfl) ?_
                    refine Wp.exit ?_
                    refine Eq.mpr (if_pos rfl) ?_
                    refine Wp.regionSeq [] [(4, xi 0), (5, xi 0), (6, xi 3)] [.obj [sv EN b0 nil0 capd0 l0, sv EN b1 nil1 capd1 l1, sv EN b2 nil2 capd2 l2], .obj [vi r0, vi r1, vi r2]]
                      (cast trivial (by kernel_rfl)) (by kernel_rfl) ?_
                    refine Wp.ret ?_
                    exact ⟨Or.inr rfl, [.one (vi 0), .one (vi 0), .one (vi 3)], by kernel_rfl, (by have hp : plan (half l0) (half l1) (half l2) r0 r1 r2 = (0, 0, 3) := by { unfold plan pick; repeat' first | rw [if_pos (by omega)] | rw [if_neg (by omega)] }; rw [hp]; rfl)⟩
                ·
                  refine Wp.regionSeq [(4, xb false, [.obj [sv EN b0 nil0 capd0 l0, sv EN b1 nil1 capd1 l1, sv EN b2 nil2 capd2 l2], .obj [vi r0, vi r1, vi r2]])] [(2, .y (.one (.ptr 0 0))), (3, .y (.one (.ptr 1 0))), (8, xi 2), (9, xi ((half l2))), (30, xb false)] [.obj [sv EN b0 nil0 capd0 l0, sv EN b1 nil1 capd1 l1, sv EN b2 nil2 capd2 l2], .obj [vi r0, vi r1, vi r2]]
                    (cast (And.intro (ob_raw (P := pg) (A := an) (vals := [xi ((half l2)), xi r2]) (H := [.obj [sv EN b0 nil0 capd0 l0, sv EN b1 nil1 capd1 l1, sv EN b2 nil2 capd2 l2], .obj [vi r0, vi r1, vi r2]]) (op := .binOp .gtr 3 (.tmp 0) (.tmp 1) 3) (ty := 0) (r := xb (decide ((((half l2)) : Int) > r2))) (v := xb false) (by kernel_rfl) (congrArg (fun z => xb z) (decide_eq_false (by omega)))) trivial) (by kernel_rfl)) (by kernel_rfl) ?_
                  refine Wp.condF (by kernel_rfl) ?_
                  refine Wp.skip ?_
                  by_cases c16 : (0 : Int) < ((half l2))
                  ·
                    refine Wp.regionSeq [(1, xb true, [.obj [sv EN b0 nil0 capd0 l0, sv EN b1 nil1 capd1 l1, sv EN b2 nil2 capd2 l2], .obj [vi r0, vi r1, vi r2]])] [(2, .y (.one (.ptr 0 0))), (3, .y (.one (.ptr 1 0))), (8, xi 2), (9, xi ((half l2))), (35, xb true)] [.obj [sv EN b0 nil0 capd0 l0, sv EN b1 nil1 capd1 l1, sv EN b2 nil2 capd2 l2], .obj [vi r0, vi r1, vi r2]]
                      (cast (And.intro (ob_raw (P := pg) (A := an) (vals := [xi ((half l2)), xi 0]) (H := [.obj [sv EN b0 nil0 capd0 l0, sv EN b1 nil1 capd1 l1, sv EN b2 nil2 capd2 l2], .obj [vi r0, vi r1, vi r2]]) (op := .binOp .gtr 3 (.tmp 0) (.tmp 1) 3) (ty := 0) (r := xb (decide ((((half l2)) : Int) > 0))) (v := xb true) (by kernel_rfl) (congrArg (fun z => xb z) (decide_eq_true (by omega)))) trivial) (by kernel_rfl)) (by kernel_rfl) ?_
                    refine Wp.condT (by kernel_rfl) ?_
                    refine Wp.regionSeq [] [(4, xi 2), (5, xi ((half l2))), (6, xi 0)] [.obj [sv EN b0 nil0 capd0 l0, sv EN b1 nil1 capd1 l1, sv EN b2 nil2 capd2 l2], .obj [vi r0, vi r1, vi r2]]
                      (cast trivial (by kernel_rfl)) (by kernel_rfl) ?_
                    refine Wp.ret ?_
                    exact ⟨Or.inr rfl, [.one (vi 2), .one (vi ((half l2))), .one (vi 0)], by kernel_rfl, (by have hp : plan (half l0) (half l1) (half l2) r0 r1 r2 = (2, ((half l2)), 0) := by { unfold plan pick; repeat' first | rw [if_pos (by omega)] | rw [if_neg (by omega)] }; rw [hp]; rfl)⟩
                  ·
                    refine Wp.regionSeq [(1, xb false, [.obj [sv EN b0 nil0 capd0 l0, sv EN b1 nil1 capd1 l1, sv EN b2 nil2 capd2 l2], .obj [vi r0, vi r1, vi r2]])] [(2, .y (.one (.ptr 0 0))), (3, .y (.one (.ptr 1 0))), (8, xi 2), (9, xi ((half l2))), (35, xb false)] [.obj [sv EN b0 nil0 capd0 l0, sv EN b1 nil1 capd1 l1, sv EN b2 nil2 capd2 l2], .obj [vi r0, vi r1, vi r2]]
                      (cast (And.intro (ob_raw (P := pg) (A := an) (vals := [xi ((half l2)), xi 0]) (H := [.obj [sv EN b0 nil0 capd0 l0, sv EN b1 nil1 capd1 l1, sv EN b2 nil2 capd2 l2], .obj [vi r0, vi r1, vi r2]]) (op := .binOp .gtr 3 (.tmp 0) (.tmp 1) 3) (ty := 0) (r := xb (decide ((((half l2)) : Int) > 0))) (v := xb false) (by kernel_rfl) (congrArg (fun z => xb z) (decide_eq_false (by omega)))) trivial) (by kernel_rfl)) (by kernel_rfl) ?_
                    refine Wp.condF (by kernel_rfl) ?_
                    refine Wp.skip ?_
                    refine Wp.region [] [(2, .y (.one (.ptr 0 0))), (3, .y (.one (.ptr 1 0))), (8, xi 3)] [.obj [sv EN b0 nil0 capd0 l0, sv EN b1 nil1 capd1 l1, sv EN b2 nil2 capd2 l2], .obj [vi r0, vi r1, vi r2]]
                      (cast trivial (by kernel_rfl)) (by kernel_rfl) ?_
                    refine ⟨[(2, .y (.one (.ptr 0 0))), (3, .y (.one (.ptr 1 0))), (8, xi 3)], [.obj [sv EN b0 nil0 capd0 l0, sv EN b1 nil1 capd1 l1, sv EN b2 nil2 capd2 l2], .obj [vi r0, vi r1, vi r2]], by kernel_rfl, ?_⟩
                    refine WpL.step ?_
                    refine Wp.seq ?_
                    refine Wp.regionSeq [] [(2, .y (.one (.ptr 0 0))), (3, .y (.one (.ptr 1 0))), (8, xi 3), (19, xb false)] [.obj [sv EN b0 nil0 capd0 l0, sv EN b1 nil1 capd1 l1, sv EN b2 nil2 capd2 l2], .obj [vi r0, vi r1, vi r2]]
                      (cast trivial (by kernel_rfl)) (by kernel_rfl) ?_
                    refine Wp.condF (by kernel_rfl) ?_
                    refine Wp.exit ?_
                    refine Eq.mpr (if_pos rfl) ?_
                    refine Wp.regionSeq [] [(4, xi 0), (5, xi 0), (6, xi 3)] [.obj [sv EN b0 nil0 capd0 l0, sv EN b1 nil1 capd1 l1, sv EN b2 nil2 capd2 l2], .obj [vi r0, vi r1, vi r2]]
                      (cast trivial (by kernel_rfl)) (by kernel_rfl) ?_
                    refine Wp.ret ?_
                    exact ⟨Or.inr rfl, [.one (vi 0), .one (vi 0), .one (vi 3)], by kernel_rfl, (by have hp : plan (half l0) (half l1) (half l2) r0 r1 r2 = (0, 0, 3) := by { unfold plan pick; repeat' first | rw [if_pos (by omega)] | rw [if_neg (by omega)] }; rw [hp]; rfl)⟩
            ·
              refine Wp.regionSeq [(4, xb false, [.obj [sv EN b0 nil0 capd0 l0, sv EN b1 nil1 capd1 l1, sv EN b2 nil2 capd2 l2], .obj [vi r0, vi r1, vi r2]])] [(2, .y (.one (.ptr 0 0))), (3, .y (.one (.ptr 1 0))), (8, xi 1), (9, xi ((half l1))), (30, xb false)] [.obj [sv EN b0 nil0 capd0 l0, sv EN b1 nil1 capd1 l1, sv EN b2 nil2 capd2 l2], .obj [vi r0, vi r1, vi r2]]
                (cast (And.intro (ob_raw (P := pg) (A := an) (vals := [xi ((half l1)), xi r1]) (H := [.obj [sv EN b0 nil0 capd0 l0, sv EN b1 nil1 capd1 l1, sv EN b2 nil2 capd2 l2], .obj [vi r0, vi r1, vi r2]]) (op := .binOp .gtr 3 (.tmp 0) (.tmp 1) 3) (ty := 0) (r := xb (decide ((((half l1)) : Int) > r1))) (v := xb false) (by kernel_rfl) (congrArg (fun z => xb z) (decide_eq_false (by omega)))) trivial) (by kernel_rfl)) (by kernel_rfl) ?_
              refine Wp.condF (by kernel_rfl) ?_
              refine Wp.skip ?_
              by_cases c17 : (0 : Int) < ((half l1))
              ·
                refine Wp.regionSeq [(1, xb true, [.obj [sv EN b0 nil0 capd0 l0, sv EN b1 nil1 capd1 l1, sv EN b2 nil2 capd2 l2], .obj [vi r0, vi r1, vi r2]])] [(2, .y (.one (.ptr 0 0))), (3, .y (.one (.ptr 1 0))), (8, xi 1), (9, xi ((half l1))), (35, xb true)] [.obj [sv EN b0 nil0 capd0 l0, sv EN b1 nil1 capd1 l1, sv EN b2 nil2 capd2 l2], .obj [vi r0, vi r1, vi r2]]
                  (cast (And.intro (ob_raw (P := pg) (A := an) (vals := [xi ((half l1)), xi 0]) (H := [.obj [sv EN b0 nil0 capd0 l0, sv EN b1 nil1 capd1 l1, sv EN b2 nil2 capd2 l2], .obj [vi r0, vi r1, vi r2]]) (op := .binOp .gtr 3 (.tmp 0) (.tmp 1) 3) (ty := 0) (r := xb (decide ((((half l1)) : Int) > 0))) (v := xb true) (by kernel_rfl) (congrArg (fun z => xb z) (decide_eq_true (by omega)))) trivial) (by kernel_rfl)) (by kernel_rfl) ?_
                refine Wp.condT (by kernel_rfl) ?_
                refine Wp.regionSeq [] [(4, xi 1), (5, xi ((half l1))), (6, xi 0)] [.obj [sv EN b0 nil0 capd0 l0, sv EN b1 nil1 capd1 l1, sv EN b2 nil2 capd2 l2], .obj [vi r0, vi r1, vi r2]]
                  (cast trivial (by kernel_rfl)) (by kernel_rfl) ?_
                refine Wp.ret ?_
                exact ⟨Or.inr rfl, [.one (vi 1), .one (vi ((half l1))), .one (vi 0)], by kernel_rfl, (by have hp : plan (half l0) (half l1) (half l2) r0 r1 r2 = (1, ((half l1)), 0) := by { unfold plan pick; repeat' first | rw [if_pos (by omega)] | rw [if_neg (by omega)] }; rw [hp]; rfl)⟩
              ·
                refine Wp.regionSeq [(1, xb false, [.obj [sv EN b0 nil0 capd0 l0, sv EN b1 nil1 capd1 l1, sv EN b2 nil2 capd2 l2], .obj [vi r0, vi r1, vi r2]])] [(2, .y (.one (.ptr 0 0))), (3, .y (.one (.ptr 1 0))), (8, xi 1), (9, xi ((half l1))), (35, xb false)] [.obj [sv EN b0 nil0 capd0 l0, sv EN b1 nil1 capd1 l1, sv EN b2 nil2 capd2 l2], .obj [vi r0, vi r1, vi r2]]
                  (cast (And.intro (ob_raw (P := pg) (A := an) (vals := [xi ((half l1)), xi 0]) (H := [.obj [sv EN b0 nil0 capd0 l0, sv EN b1 nil1 capd1 l1, sv EN b2 nil2 capd2 l2], .obj [vi r0, vi r1, vi r2]]) (op := .binOp .gtr 3 (.tmp 0) (.tmp 1) 3) (ty := 0) (r := xb (decide ((((half l1)) : Int) > 0))) (v := xb false) (by kernel_rfl) (congrArg (fun z => xb z) (decide_eq_false (by omega)))) trivial) (by kernel_rfl)) (by kernel_rfl) ?_
                refine Wp.condF (by kernel_rfl) ?_
                refine Wp.skip ?_
                refine Wp.region [] [(2, .y (.one (.ptr 0 0))), (3, .y (.one (.ptr 1 0))), (8, xi 2)] [.obj [sv EN b0 nil0 capd0 l0, sv EN b1 nil1 capd1 l1, sv EN b2 nil2 capd2 l2], .obj [vi r0, vi r1, vi r2]]
                  (cast trivial (by kernel_rfl)) (by kernel_rfl) ?_
                refine ⟨[(2, .y (.one (.ptr 0 0))), (3, .y (.one (.ptr 1 0))), (8, xi 2)], [.obj [sv EN b0 nil0 capd0 l0, sv EN b1 nil1 capd1 l1, sv EN b2 nil2 capd2 l2], .obj [vi r0, vi r1, vi r2]], by kernel_rfl, ?_⟩
                refine WpL.step ?_
                refine Wp.seq ?_
                refine Wp.regionSeq [] [(2, .y (.one (.ptr 0 0))), (3, .y (.one (.ptr 1 0))), (8, xi 2), (19, xb true)] [.obj [sv EN b0 nil0 capd0 l0, sv EN b1 nil1 capd1 l1, sv EN b2 nil2 capd2 l2], .obj [vi r0, vi r1, vi r2]]
                  (cast trivial (by kernel_rfl)) (by kernel_rfl) ?_
                refine Wp.condT (by kernel_rfl) ?_
                refine Wp.skip ?_
                refine Wp.seq ?_
                refine Wp.block ?_
                have hhz18 := half_is (l2)
                refine Wp.regionSeq [(3, xi ((half l2)), [.obj [sv EN b0 nil0 capd0 l0, sv EN b1 nil1 capd1 l1, sv EN b2 nil2 capd2 l2], .obj [vi r0, vi r1, vi r2]])] [(2, .y (.one (.ptr 0 0))), (3, .y (.one (.ptr 1 0))), (8, xi 2), (9, xi ((half l2)))] [.obj [sv EN b0 nil0 capd0 l0, sv EN b1 nil1 capd1 l1, sv EN b2 nil2 capd2 l2], .obj [vi r0, vi r1, vi r2]]
                  (cast (And.intro (ob_pure (P := pg) (A := an) (H := [.obj [sv EN b0 nil0 capd0 l0, sv EN b1 nil1 capd1 l1, sv EN b2 nil2 capd2 l2], .obj [vi r0, vi r1, vi r2]]) (g := 8) (vals := [.y (.one (sv EN b2 nil2 capd2 l2))]) (xs0 := [.one (sv EN b2 nil2 capd2 l2)]) (xs1 := [.one (sv EN b2 nil2 capd2 l2)]) (res := [.one (vi ((half l2)))]) (ats := #[]) (ty := 0) (v := xi ((half l2))) [.tmp 0] (by kernel_rfl) (by kernel_rfl) (by kernel_rfl) (fn8 _ _ _ l2 (by omega)) (by kernel_rfl)) trivial) (by kernel_rfl)) (by kernel_rfl) ?_
                refine Wp.seq ?_
                by_cases c20 : (r2 : Int) < ((half l2))
                ·
                  refine Wp.regionSeq [(4, xb true, [.obj [sv EN b0 nil0 capd0 l0, sv EN b1 nil1 capd1 l1, sv EN b2 nil2 capd2 l2], .obj [vi r0, vi r1, vi r2]])] [(2, .y (.one (.ptr 0 0))), (3, .y (.one (.ptr 1 0))), (8, xi 2), (9, xi ((half l2))), (30, xb true)] [.obj [sv EN b0 nil0 capd0 l0, sv EN b1 nil1 capd1 l1, sv EN b2 nil2 capd2 l2], .obj [vi r0, vi r1, vi r2]]
                    (cast (And.intro (ob_raw (P := pg) (A := an) (vals := [xi ((half l2)), xi r2]) (H := [.obj [sv EN b0 nil0 capd0 l0, sv EN b1 nil1 capd1 l1, sv EN b2 nil2 capd2 l2], .obj [vi r0, vi r1, vi r2]]) (op := .binOp .gtr 3 (.tmp 0) (.tmp 1) 3) (ty := 0) (r := xb (decide ((((half l2)) : Int) > r2))) (v := xb true) (by kernel_rfl) (congrArg (fun z => xb z) (decide_eq_true (by omega)))) trivial) (by kernel_rfl)) (by kernel_rfl) ?_
                  refine Wp.condT (by kernel_rfl) ?_
                  refine Wp.region [] [(2, .y (.one (.ptr 0 0))), (3, .y (.one (.ptr 1 0))), (8, xi 2), (9, xi r2)] [.obj [sv EN b0 nil0 capd0 l0, sv EN b1 nil1 capd1 l1, sv EN b2 nil2 capd2 l2], .obj [vi r0, vi r1, vi r2]]
                    (cast trivial (by kernel_rfl)) (by kernel_rfl) ?_
                  by_cases c21 : (0 : Int) < r2
                  ·
                    refine Wp.regionSeq [(1, xb true, [.obj [sv EN b0 nil0 capd0 l0, sv EN b1 nil1 capd1 l1, sv EN b2 nil2 capd2 l2], .obj [vi r0, vi r1, vi r2]])] [(2, .y (.one (.ptr 0 0))), (3, .y (.one (.ptr 1 0))), (8, xi 2), (9, xi r2), (35, xb true)] [.obj [sv EN b0 nil0 capd0 l0, sv EN b1 nil1 capd1 l1, sv EN b2 nil2 capd2 l2], .obj [vi r0, vi r1, vi r2]]
                      (cast (And.intro (ob_raw (P := pg) (A := an) (vals := [xi r2, xi 0]) (H := [.obj [sv EN b0 nil0 capd0 l0, sv EN b1 nil1 capd1 l1, sv EN b2 nil2 capd2 l2], .obj [vi r0, vi r1, vi r2]]) (op := .binOp .gtr 3 (.tmp 0) (.tmp 1) 3) (ty := 0) (r := xb (decide ((r2 : Int) > 0))) (v := xb true) (by kernel_rfl) (congrArg (fun z => xb z) (decide_eq_true (by omega)))) trivial) (by kernel_rfl)) (by kernel_rfl) ?_
                    refine Wp.condT (by kernel_rfl) ?_
                    refine Wp.regionSeq [] [(4, xi 2), (5, xi r2), (6, xi 0)] [.obj [sv EN b0 nil0 capd0 l0, sv EN b1 nil1 capd1 l1, sv EN b2 nil2 capd2 l2], .obj [vi r0, vi r1, vi r2]]
                      (cast trivial (by kernel_rfl)) (by kernel_rfl) ?_
                    refine Wp.ret ?_
                    exact ⟨Or.inr rfl, [.one (vi 2), .one (vi r2), .one (vi 0)], by kernel_rfl, (by have hp : plan (half l0) (half l1) (half l2) r0 r1 r2 = (2, r2, 0) := by { unfold plan pick; repeat' first | rw [if_pos (by omega)] | rw [if_neg (by omega)] }; rw [hp]; rfl)⟩
                  ·
                    refine Wp.regionSeq [(1, xb false, [.obj [sv EN b0 nil0 capd0 l0, sv EN b1 nil1 capd1 l1, sv EN b2 nil2 capd2 l2], .obj [vi r0, vi r1, vi r2]])] [(2, .y (.one (.ptr 0 0))), (3, .y (.one (.ptr 1 0))), (8, xi 2), (9, xi r2), (35, xb false)] [.obj [sv EN b0 nil0 capd0 l0, sv EN b1 nil1 capd1 l1, sv EN b2 nil2 capd2 l2], .obj [vi r0, vi r1, vi r2]]
                      (cast (And.intro (ob_raw (P := pg) (A := an) (vals := [xi r2, xi 0]) (H := [.obj [sv EN b0 nil0 capd0 l0, sv EN b1 nil1 capd1 l1, sv EN b2 nil2 capd2 l2], .obj [vi r0, vi r1, vi r2]]) (op := .binOp .gtr 3 (.tmp 0) (.tmp 1) 3) (ty := 0) (r := xb (decide ((r2 : Int) > 0))) (v := xb false) (by kernel_rfl) (congrArg (fun z => xb z) (decide_eq_false (by omega)))) trivial) (by kernel_rfl)) (by kernel_rfl) ?_
                    refine Wp.condF (by kernel_rfl) ?_
                    refine Wp.skip ?_
                    refine Wp.region [] [(2, .y (.one (.ptr 0 0))), (3, .y (.one (.ptr 1 0))), (8, xi 3)] [.obj [sv EN b0 nil0 capd0 l0, sv EN b1 nil1 capd1 l1, sv EN b2 nil2 capd2 l2], .obj [vi r0, vi r1, vi r2]]
                      (cast trivial (by kernel_rfl)) (by kernel_rfl) ?_
                    refine ⟨[(2, .y (.one (.ptr 0 0))), (3, .y (.one (.ptr 1 0))), (8, xi 3)], [.obj [sv EN b0 nil0 capd0 l0, sv EN b1 nil1 capd1 l1, sv EN b2 nil2 capd2 l2], .obj [vi r0, vi r1, vi r2]], by kernel_rfl, ?_⟩
                    refine WpL.step ?_
                    refine Wp.seq ?_
                    refine Wp.regionSeq [] [(2, .y (.one (.ptr 0 0))), (3, .y (.one (.ptr 1 0))), (8, xi 3), (19, xb false)] [.obj [sv EN b0 nil0 capd0 l0, sv EN b1 nil1 capd1 l1, sv EN b2 nil2 capd2 l2], .obj [vi r0, vi r1, vi r2]]
                      (cast trivial (by kernel_rfl)) (by kernel_rfl) ?_
                    refine Wp.condF (by kernel_rfl) ?_
                    refine Wp.exit ?_
                    refine Eq.mpr (if_pos rfl) ?_
                    refine Wp.regionSeq [] [(4, xi 0), (5, xi 0), (6, xi 3)] [.obj [sv EN b0 nil0 capd0 l0, sv EN b1 nil1 capd1 l1, sv EN b2 nil2 capd2 l2], .obj [vi r0, vi r1, vi r2]]
                      (cast trivial (by kernel_rfl)) (by kernel_rfl) ?_
                    refine Wp.ret ?_
                    exact ⟨Or.inr rfl, [.one (vi 0), .one (vi 0), .one (vi 3)], by kernel_rfl, (by have hp : plan (half l0) (half l1) (half l2) r0 r1 r2 = (0, 0, 3) := by { unfold plan pick; repeat' first | rw [if_pos (by omega)] | rw [if_neg (by omega)] }; rw [hp]; rfl)⟩
                ·
                  refine Wp.regionSeq [(4, xb false, [.obj [sv EN b0 nil0 capd0 l0, sv EN b1 nil1 capd1 l1, sv EN b2 nil2 capd2 l2], .obj [vi r0, vi r1, vi r2]])] [(2, .y (.one (.ptr 0 0))), (3, .y (.one (.ptr 1 0))), (8, xi 2), (9, xi ((half l2))), (30, xb false)] [.obj [sv EN b0 nil0 capd0 l0, sv EN b1 nil1 capd1 l1, sv EN b2 nil2 capd2 l2], .obj [vi r0, vi r1, vi r2]]
                    (cast (And.intro (ob_raw (P := pg) (A := an) (vals := [xi ((half l2)), xi r2]) (H := [.obj [sv EN b0 nil0 capd0 l0, sv EN b1 nil1 capd1 l1, sv EN b2 nil2 capd2 l2], .obj [vi r0, vi r1, vi r2]]) (op := .binOp .gtr 3 (.tmp 0) (.tmp 1) 3) (ty := 0) (r := xb (decide ((((half l2)) : Int) > r2))) (v := xb false) (by kernel_rfl) (congrArg (fun z => xb z) (decide_eq_false (by omega)))) trivial) (by kernel_rfl)) (by kernel_rfl) ?_
                  refine Wp.condF (by kernel_rfl) ?_
                  refine Wp.skip ?_
                  by_cases c22 : (0 : Int) < ((half l2))
                  ·
                    refine Wp.regionSeq [(1, xb true, [.obj [sv EN b0 nil0 capd0 l0, sv EN b1 nil1 capd1 l1, sv EN b2 nil2 capd2 l2], .obj [vi r0, vi r1, vi r2]])] [(2, .y (.one (.ptr 0 0))), (3, .y (.one (.ptr 1 0))), (8, xi 2), (9, xi ((half l2))), (35, xb true)] [.obj [sv EN b0 nil0 capd0 l0, sv EN b1 nil1 capd1 l1, sv EN b2 nil2 capd2 l2], .obj [vi r0, vi r1, vi r2]]
                      (cast (And.intro (ob_raw (P := pg) (A := an) (vals := [xi ((half l2)), xi 0]) (H := [.obj [sv EN b0 nil0 capd0 l0, sv EN b1 nil1 capd1 l1, sv EN b2 nil2 capd2 l2], .obj [vi r0, vi r1, vi r2]]) (op := .binOp .gtr 3 (.tmp 0) (.tmp 1) 3) (ty := 0) (r := xb (decide ((((half l2)) : Int) > 0))) (v := xb true) (by kernel_rfl) (congrArg (fun z => xb z) (decide_eq_true (by omega)))) trivial) (by kernel_rfl)) (by kernel_rfl) ?_
                    refine Wp.condT (by kernel_rfl) ?_
                    refine Wp.regionSeq [] [(4, xi 2), (5, xi ((half l2))), (6, xi 0)] [.obj [sv EN b0 nil0 capd0 l0, sv EN b1 nil1 capd1 l1, sv EN b2 nil2 capd2 l2], .obj [vi r0, vi r1, vi r2]]
                      (cast trivial (by kernel_rfl)) (by kernel_rfl) ?_
                    refine Wp.ret ?_
                    exact ⟨Or.inr rfl, [.one (vi 2), .one (vi ((half l2))), .one (vi 0)], by kernel_rfl, (by have hp : plan (half l0) (half l1) (half l2) r0 r1 r2 = (2, ((half l2)), 0) := by { unfold plan pick; repeat' first | rw [if_pos (by omega)] | rw [if_neg (by omega)] }; rw [hp]; rfl)⟩
                  ·
                    refine Wp.regionSeq [(1, xb false, [.obj [sv EN b0 nil0 capd0 l0, sv EN b1 nil1 capd1 l1, sv EN b2 nil2 capd2 l2], .obj [vi r0, vi r1, vi r2]])] [(2, .y (.one (.ptr 0 0))), (3, .y (.one (.ptr 1 0))), (8, xi 2), (9, xi ((half l2))), (35, xb false)] [.obj [sv EN b0 nil0 capd0 l0, sv EN b1 nil1 capd1 l1, sv EN b2 nil2 capd2 l2], .obj [vi r0, vi r1, vi r2]]
                      (cast (And.intro (ob_raw (P := pg) (A := an) (vals := [xi ((half l2)), xi 0]) (H := [.obj [sv EN b0 nil0 capd0 l0, sv EN b1 nil1 capd1 l1, sv EN b2 nil2 capd2 l2], .obj [vi r0, vi r1, vi r2]]) (op := .binOp .gtr 3 (.tmp 0) (.tmp 1) 3) (ty := 0) (r := xb (decide ((((half l2)) : Int) > 0))) (v := xb false) (by kernel_rfl) (congrArg (fun z => xb z) (decide_eq_false (by omega)))) trivial) (by kernel_rfl)) (by kernel_rfl) ?_
                    refine Wp.condF (by kernel_rfl) ?_
                    refine Wp.skip ?_
                    refine Wp.region [] [(2, .y (.one (.ptr 0 0))), (3, .y (.one (.ptr 1 0))), (8, xi 3)] [.obj [sv EN b0 nil0 capd0 l0, sv EN b1 nil1 capd1 l1, sv EN b2 nil2 capd2 l2], .obj [vi r0, vi r1, vi r2]]
                      (cast trivial (by kernel_rfl)) (by kernel_rfl) ?_
                    refine ⟨[(2, .y (.one (.ptr 0 0))), (3, .y (.one (.ptr 1 0))), (8, xi 3)], [.obj [sv EN b0 nil0 capd0 l0, sv EN b1 nil1 capd1 l1, sv EN b2 nil2 capd2 l2], .obj [vi r0, vi r1, vi r2]], by kernel_rfl, ?_⟩
                    refine WpL.step ?_
                    refine Wp.seq ?_
                    refine Wp.regionSeq [] [(2, .y (.one (.ptr 0 0))), (3, .y (.one (.ptr 1 0))), (8, xi 3), (19, xb false)] [.obj [sv EN b0 nil0 capd0 l0, sv EN b1 nil1 capd1 l1, sv EN b2 nil2 capd2 l2], .obj [vi r0, vi r1, vi r2]]
                      (cast trivial (by kernel_rfl)) (by kernel_rfl) ?_
                    refine Wp.condF (by kernel_rfl) ?_
                    refine Wp.exit ?_
                    refine Eq.mpr (if_pos rfl) ?_
                    refine Wp.regionSeq [] [(4, xi 0), (5, xi 0), (6, xi 3)] [.obj [sv EN b0 nil0 capd0 l0, sv EN b1 nil1 capd1 l1, sv EN b2 nil2 capd2 l2], .obj [vi r0, vi r1, vi r2]]
                      (cast trivial (by kernel_rfl)) (by kernel_rfl) ?_
                    refine Wp.ret ?_
                    exact ⟨Or.inr rfl, [.one (vi 0), .one (vi 0), .one (vi 3)], by kernel_rfl, (by have hp : plan (half l0) (half l1) (half l2) r0 r1 r2 = (0, 0, 3) := by { unfold plan pick; repeat' first | rw [if_pos (by omega)] | rw [if_neg (by omega)] }; rw [hp]; rfl)⟩
        ·
          refine Wp.regionSeq [(4, xb false, [.obj [sv EN b0 nil0 capd0 l0, sv EN b1 nil1 capd1 l1, sv EN b2 nil2 capd2 l2], .obj [vi r0, vi r1, vi r2]])] [(2, .y (.one (.ptr 0 0))), (3, .y (.one (.ptr 1 0))), (8, xi 0), (9, xi ((half l0))), (30, xb false)] [.obj [sv EN b0 nil0 capd0 l0, sv EN b1 nil1 capd1 l1, sv EN b2 nil2 capd2 l2], .obj [vi r0, vi r1, vi r2]]
            (cast (And.intro (ob_raw (P := pg) (A := an) (vals := [xi ((half l0)), xi r0]) (H := [.obj [sv EN b0 nil0 capd0 l0, sv EN b1 nil1 capd1 l1, sv EN b2 nil2 capd2 l2], .obj [vi r0, vi r1, vi r2]]) (op := .binOp .gtr 3 (.tmp 0) (.tmp 1) 3) (ty := 0) (r := xb (decide ((((half l0)) : Int) > r0))) (v := xb false) (by kernel_rfl) (congrArg (fun z => xb z) (decide_eq_false (by omega)))) trivial) (by kernel_rfl)) (by kernel_rfl) ?_
          refine Wp.condF (by kernel_rfl) ?_
          refine Wp.skip ?_
          by_cases c23 : (0 : Int) < ((half l0))
          ·
            refine Wp.regionSeq [(1, xb true, [.obj [sv EN b0 nil0 capd0 l0, sv EN b1 nil1 capd1 l1, sv EN b2 nil2 capd2 l2], .obj [vi r0, vi r1, vi r2]])] [(2, .y (.one (.ptr 0 0))), (3, .y (.one (.ptr 1 0))), (8, xi 0), (9, xi ((half l0))), (35, xb true)] [.obj [sv EN b0 nil0 capd0 l0, sv EN b1 nil1 capd1 l1, sv EN b2 nil2 capd2 l2], .obj [vi r0, vi r1, vi r2]]
              (cast (And.intro (ob_raw (P := pg) (A := an) (vals := [xi ((half l0)), xi 0]) (H := [.obj [sv EN b0 nil0 capd0 l0, sv EN b1 nil1 capd1 l1, sv EN b2 nil2 capd2 l2], .obj [vi r0, vi r1, vi r2]]) (op := .binOp .gtr 3 (.tmp 0) (.tmp 1) 3) (ty := 0) (r := xb (decide ((((half l0)) : Int) > 0))) (v := xb true) (by kernel_rfl) (congrArg (fun z => xb z) (decide_eq_true (by omega)))) trivial) (by kernel_rfl)) (by kernel_rfl) ?_
            refine Wp.condT (by kernel_rfl) ?_
            refine Wp.regionSeq [] [(4, xi 0), (5, xi ((half l0))), (6, xi 0)] [.obj [sv EN b0 nil0 capd0 l0, sv EN b1 nil1 capd1 l1, sv EN b2 nil2 capd2 l2], .obj [vi r0, vi r1, vi r2]]
              (cast trivial (by kernel_rfl)) (by kernel_rfl) ?_
            refine Wp.ret ?_
            exact ⟨Or.inr rfl, [.one (vi 0), .one (vi ((half l0))), .one (vi 0)], by kernel_rfl, (by have hp : plan (half l0) (half l1) (half l2) r0 r1 r2 = (0, ((half l0)), 0) := by { unfold plan pick; repeat' first | rw [if_pos (by omega)] | rw [if_neg (by omega)] }; rw [hp]; rfl)⟩
          ·
            refine Wp.regionSeq [(1, xb false, [.obj [sv EN b0 nil0 capd0 l0, sv EN b1 nil1 capd1 l1, sv EN b2 nil2 capd2 l2], .obj [vi r0, vi r1, vi r2]])] [(2, .y (.one (.ptr 0 0))), (3, .y (.one (.ptr 1 0))), (8, xi 0), (9, xi ((half l0))), (35, xb false)] [.obj [sv EN b0 nil0 capd0 l0, sv EN b1 nil1 capd1 l1, sv EN b2 nil2 capd2 l2], .obj [vi r0, vi r1, vi r2]]
              (cast (And.intro (ob_raw (P := pg) (A := an) (vals := [xi ((half l0)), xi 0]) (H := [.obj [sv EN b0 nil0 capd0 l0, sv EN b1 nil1 capd1 l1, sv EN b2 nil2 capd2 l2], .obj [vi r0, vi r1, vi r2]]) (op := .binOp .gtr 3 (.tmp 0) (.tmp 1) 3) (ty := 0) (r := xb (decide ((((half l0)) : Int) > 0))) (v := xb false) (by kernel_rfl) (congrArg (fun z => xb z) (decide_eq_false (by omega)))) trivial) (by kernel_rfl)) (by kernel_rfl) ?_
            refine Wp.condF (by kernel_rfl) ?_
            refine Wp.skip ?_
            refine Wp.region [] [(2, .y (.one (.ptr 0 0))), (3, .y (.one (.ptr 1 0))), (8, xi 1)] [.obj [sv EN b0 nil0 capd0 l0, sv EN b1 nil1 capd1 l1, sv EN b2 nil2 capd2 l2], .obj [vi r0, vi r1, vi r2]]
              (cast trivial (by kernel_rfl)) (by kernel_rfl) ?_
            refine ⟨[(2, .y (.one (.ptr 0 0))), (3, .y (.one (.ptr 1 0))), (8, xi 1)], [.obj [sv EN b0 nil0 capd0 l0, sv EN b1 nil1 capd1 l1, sv EN b2 nil2 capd2 l2], .obj [vi r0, vi r1, vi r2]], by kernel_rfl, ?_⟩
            refine WpL.step ?_
            refine Wp.seq ?_
            refine Wp.regionSeq [] [(2, .y (.one (.ptr 0 0))), (3, .y (.one (.ptr 1 0))), (8, xi 1), (19, xb true)] [.obj [sv EN b0 nil0 capd0 l0, sv EN b1 nil1 capd1 l1, sv EN b2 nil2 capd2 l2], .obj [vi r0, vi r1, vi r2]]
              (cast trivial (by kernel_rfl)) (by kernel_rfl) ?_
            refine Wp.condT (by kernel_rfl) ?_
            refine Wp.skip ?_
            refine Wp.seq ?_
            refine Wp.block ?_
            have hhz24 := half_is (l1)
            refine Wp.regionSeq [(3, xi ((half l1)), [.obj [sv EN b0 nil0 capd0 l0, sv EN b1 nil1 capd1 l1, sv EN b2 nil2 capd2 l2], .obj [vi r0, vi r1, vi r2]])] [(2, .y (.one (.ptr 0 0))), (3, .y (.one (.ptr 1 0))), (8, xi 1), (9, xi ((half l1)))] [.obj [sv EN b0 nil0 capd0 l0, sv EN b1 nil1 capd1 l1, sv EN b2 nil2 capd2 l2], .obj [vi r0, vi r1, vi r2]]
              (cast (And.intro (ob_pure (P := pg) (A := an) (H := [.obj [sv EN b0 nil0 capd0 l0, sv EN b1 nil1 capd1 l1, sv EN b2 nil2 capd2 l2], .obj [vi r0, vi r1, vi r2]]) (g := 8) (vals := [.y (.one (sv EN b1 nil1 capd1 l1))]) (xs0 := [.one (sv EN b1 nil1 capd1 l1)]) (xs1 := [.one (sv EN b1 nil1 capd1 l1)]) (res := [.one (vi ((half l1)))]) (ats := #[]) (ty := 0) (v := xi ((half l1))) [.tmp 0] (by kernel_rfl) (by kernel_rfl) (by kernel_rfl) (fn8 _ _ _ l1 (by omega)) (by kernel_rfl)) trivial) (by kernel_rfl)) (by kernel_rfl) ?_
            refine Wp.seq ?_
            by_cases c26 : (r1 : Int) < ((half l1))
            ·
              refine Wp.regionSeq [(4, xb true, [.obj [sv EN b0 nil0 capd0 l0, sv EN b1 nil1 capd1 l1, sv EN b2 nil2 capd2 l2], .obj [vi r0, vi r1, vi r2]])] [(2, .y (.one (.ptr 0 0))), (3, .y (.one (.ptr 1 0))), (8, xi 1), (9, xi ((half l1))), (30, xb true)] [.obj [sv EN b0 nil0 capd0 l0, sv EN b1 nil1 capd1 l1, sv EN b2 nil2 capd2 l2], .obj [vi r0, vi r1, vi r2]]
                (cast (And.intro (ob_raw (P := pg) (A := an) (vals := [xi ((half l1)), xi r1]) (H := [.obj [sv EN b0 nil0 capd0 l0, sv EN b1 nil1 capd1 l1, sv EN b2 nil2 capd2 l2], .obj [vi r0, vi r1, vi r2]]) (op := .binOp .gtr 3 (.tmp 0) (.tmp 1) 3) (ty := 0) (r := xb (decide ((((half l1)) : Int) > r1))) (v := xb true) (by kernel_rfl) (congrArg (fun z => xb z) (decide_eq_true (by omega)))) trivial) (by kernel_rfl)) (by kernel_rfl) ?_
              refine Wp.condT (by kernel_rfl) ?_
              refine Wp.region [] [(2, .y (.one (.ptr 0 0))), (3, .y (.one (.ptr 1 0))), (8, xi 1), (9, xi r1)] [.obj [sv EN b0 nil0 capd0 l0, sv EN b1 nil1 capd1 l1, sv EN b2 nil2 capd2 l2], .obj [vi r0, vi r1, vi r2]]
                (cast trivial (by kernel_rfl)) (by kernel_rfl) ?_
              by_cases c27 : (0 : Int) < r1
              ·
                refine Wp.regionSeq [(1, xb true, [.obj [sv EN b0 nil0 capd0 l0, sv EN b1 nil1 capd1 l1, sv EN b2 nil2 capd2 l2], .obj [vi r0, vi r1, vi r2]])] [(2, .y (.one (.ptr 0 0))), (3, .y (.one (.ptr 1 0))), (8, xi 1), (9, xi r1), (35, xb true)] [.obj [sv EN b0 nil0 capd0 l0, sv EN b1 nil1 capd1 l1, sv EN b2 nil2 capd2 l2], .obj [vi r0, vi r1, vi r2]]
                  (cast (And.intro (ob_raw (P := pg) (A := an) (vals := [xi r1, xi 0]) (H := [.obj [sv EN b0 nil0 capd0 l0, sv EN b1 nil1 capd1 l1, sv EN b2 nil2 capd2 l2], .obj [vi r0, vi r1, vi r2]]) (op := .binOp .gtr 3 (.tmp 0) (.tmp 1) 3) (ty := 0) (r := xb (decide ((r1 : Int) > 0))) (v := xb true) (by kernel_rfl) (congrArg (fun z => xb z) (decide_eq_true (by omega)))) trivial) (by kernel_rfl)) (by kernel_rfl) ?_
                refine Wp.condT (by kernel_rfl) ?_
                refine Wp.regionSeq [] [(4, xi 1), (5, xi r1), (6, xi 0)] [.obj [sv EN b0 nil0 capd0 l0, sv EN b1 nil1 capd1 l1, sv EN b2 nil2 capd2 l2], .obj [vi r0, vi r1, vi r2]]
                  (cast trivial (by kernel_rfl)) (by kernel_rfl) ?_
                refine Wp.ret ?_
                exact ⟨Or.inr rfl, [.one (vi 1), .one (vi r1), .one (vi 0)], by kernel_rfl, (by have hp : plan (half l0) (half l1) (half l2) r0 r1 r2 = (1, r1, 0) := by { unfold plan pick; repeat' first | rw [if_pos (by omega)] | rw [if_neg (by omega)] }; rw [hp]; rfl)⟩
              ·
                refine Wp.regionSeq [(1, xb false, [.obj [sv EN b0 nil0 capd0 l0, sv EN b1 nil1 capd1 l1, sv EN b2 nil2 capd2 l2], .obj [vi r0, vi r1, vi r2]])] [(2, .y (.one (.ptr 0 0))), (3, .y (.one (.ptr 1 0))), (8, xi 1), (9, xi r1), (35, xb false)] [.obj [sv EN b0 nil0 capd0 l0, sv EN b1 nil1 capd1 l1, sv EN b2 nil2 capd2 l2], .obj [vi r0, vi r1, vi r2]]
                  (cast (And.intro (ob_raw (P := pg) (A := an) (vals := [xi r1, xi 0]) (H := [.obj [sv EN b0 nil0 capd0 l0, sv EN b1 nil1 capd1 l1, sv EN b2 nil2 capd2 l2], .obj [vi r0, vi r1, vi r2]]) (op := .binOp .gtr 3 (.tmp 0) (.tmp 1) 3) (ty := 0) (r := xb (decide ((r1 : Int) > 0))) (v := xb false) (by kernel_rfl) (congrArg (fun z => xb z) (decide_eq_false (by omega)))) trivial) (by kernel_rfl)) (by kernel_rfl) ?_
                refine Wp.condF (by kernel_rfl) ?_
                refine Wp.skip ?_
                refine Wp.region [] [(2, .y (.one (.ptr 0 0))), (3, .y (.one (.ptr 1 0))), (8, xi 2)] [.obj [sv EN b0 nil0 capd0 l0, sv EN b1 nil1 capd1 l1, sv EN b2 nil2 capd2 l2], .obj [vi r0, vi r1, vi r2]]
                  (cast trivial (by kernel_rfl)) (by kernel_rfl) ?_
                refine ⟨[(2, .y (.one (.ptr 0 0))), (3, .y (.one (.ptr 1 0))), (8, xi 2)], [.obj [sv EN b0 nil0 capd0 l0, sv EN b1 nil1 capd1 l1, sv EN b2 nil2 capd2 l2], .obj [vi r0, vi r1, vi r2]], by kernel_rfl, ?_⟩
                refine WpL.step ?_
                refine Wp.seq ?_
                refine Wp.regionSeq [] [(2, .y (.one (.ptr 0 0))), (3, .y (.one (.ptr 1 0))), (8, xi 2), (19, xb true)] [.obj [sv EN b0 nil0 capd0 l0, sv EN b1 nil1 capd1 l1, sv EN b2 nil2 capd2 l2], .obj [vi r0, vi r1, vi r2]]
                  (cast trivial (by kernel_rfl)) (by kernel_rfl) ?_
                refine Wp.condT (by kernel_rfl) ?_
                refine Wp.skip ?_
                refine Wp.seq ?_
                refine Wp.block ?_
                have hhz28 := half_is (l2)
                refine Wp.regionSeq [(3, xi ((half l2)), [.obj [sv EN b0 nil0 capd0 l0, sv EN b1 nil1 capd1 l1, sv EN b2 nil2 capd2 l2], .obj [vi r0, vi r1, vi r2]])] [(2, .y (.one (.ptr 0 0))), (3, .y (.one (.ptr 1 0))), (8, xi 2), (9, xi ((half l2)))] [.obj [sv EN b0 nil0 capd0 l0, sv EN b1 nil1 capd1 l1, sv EN b2 nil2 capd2 l2], .obj [vi r0, vi r1, vi r2]]
                  (cast (And.intro (ob_pure (P := pg) (A := an) (H := [.obj [sv EN b0 nil0 capd0 l0, sv EN b1 nil1 capd1 l1, sv EN b2 nil2 capd2 l2], .obj [vi r0, vi r1, vi r2]]) (g := 8) (vals := [.y (.one (sv EN b2 nil2 capd2 l2))]) (xs0 := [.one (sv EN b2 nil2 capd2 l2)]) (xs1 := [.one (sv EN b2 nil2 capd2 l2)]) (res := [.one (vi ((half l2)))]) (ats := #[]) (ty := 0) (v := xi ((half l2))) [.tmp 0] (by kernel_rfl) (by kernel_rfl) (by kernel_rfl) (fn8 _ _ _ l2 (by omega)) (by kernel_rfl)) trivial) (by kernel_rfl)) (by kernel_rfl) ?_
                refine Wp.seq ?_
                by_cases c30 : (r2 : Int) < ((half l2))
                ·
                  refine Wp.regionSeq [(4, xb true, [.obj [sv EN b0 nil0 capd0 l0, sv EN b1 nil1 capd1 l1, sv EN b2 nil2 capd2 l2], .obj [vi r0, vi r1, vi r2]])] [(2, .y (.one (.ptr 0 0))), (3, .y (.one (.ptr 1 0))), (8, xi 2), (9, xi ((half l2))), (30, xb true)] [.obj [sv EN b0 nil0 capd0 l0, sv EN b1 nil1 capd1 l1, sv EN b2 nil2 capd2 l2], .obj [vi r0, vi r1, vi r2]]
                    (cast (And.intro (ob_raw (P := pg) (A := an) (vals := [xi ((half l2)), xi r2]) (H := [.obj [sv EN b0 nil0 capd0 l0, sv EN b1 nil1 capd1 l1, sv EN b2 nil2 capd2 l2], .obj [vi r0, vi r1, vi r2]]) (op := .binOp .gtr 3 (.tmp 0) (.tmp 1) 3) (ty := 0) (r := xb (decide ((((half l2)) : Int) > r2))) (v := xb true) (by kernel_rfl) (congrArg (fun z => xb z) (decide_eq_true (by omega)))) trivial) (by kernel_rfl)) (by kernel_rfl) ?_
                  refine Wp.condT (by kernel_rfl) ?_
                  refine Wp.region [] [(2, .y (.one (.ptr 0 0))), (3, .y (.one (.ptr 1 0))), (8, xi 2), (9, xi r2)] [.obj [sv EN b0 nil0 capd0 l0, sv EN b1 nil1 capd1 l1, sv EN b2 nil2 capd2 l2], .obj [vi r0, vi r1, vi r2]]
                    (cast trivial (by kernel_rfl)) (by kernel_rfl) ?_
                  by_cases c31 : (0 : Int) < r2
                  ·
                    refine Wp.regionSeq [(1, xb true, [.obj [sv EN b0 nil0 capd0 l0, sv EN b1 nil1 capd1 l1, sv EN b2 nil2 capd2 l2], .obj [vi r0, vi r1, vi r2]])] [(2, .y (.one (.ptr 0 0))), (3, .y (.one (.ptr 1 0))), (8, xi 2), (9, xi r2), (35, xb true)] [.obj [sv EN b0 nil0 capd0 l0, sv EN b1 nil1 capd1 l1, sv EN b2 nil2 capd2 l2], .obj [vi r0, vi r1, vi r2]]
                      (cast (And.intro (ob_raw (P := pg) (A := an) (vals := [xi r2, xi 0]) (H := [.obj [sv EN b0 nil0 capd0 l0, sv EN b1 nil1 capd1 l1, sv EN b2 nil2 capd2 l2], .obj [vi r0, vi r1, vi r2]]) (op := .binOp .gtr 3 (.tmp 0) (.tmp 1) 3) (ty := 0) (r := xb (decide ((r2 : Int) > 0))) (v := xb true) (by kernel_rfl) (congrArg (fun z => xb z) (decide_eq_true (by omega)))) trivial) (by kernel_rfl)) (by kernel_rfl) ?_
                    refine Wp.condT (by kernel_rfl) ?_
                    refine Wp.regionSeq [] [(4, xi 2), (5, xi r2), (6, xi 0)] [.obj [sv EN b0 nil0 capd0 l0, sv EN b1 nil1 capd1 l1, sv EN b2 nil2 capd2 l2], .obj [vi r0, vi r1, vi r2]]
                      (cast trivial (by kernel_rfl)) (by kernel_rfl) ?_
                    refine Wp.ret ?_
                    exact ⟨Or.inr rfl, [.one (vi 2), .one (vi r2), .one (vi 0)], by kernel_rfl, (by have hp : plan (half l0) (half l1) (half l2) r0 r1 r2 = (2, r2, 0) := by { unfold plan pick; repeat' first | rw [if_pos (by omega)] | rw [if_neg (by omega)] }; rw [hp]; rfl)⟩
                  ·
                    refine Wp.regionSeq [(1, xb false, [.obj [sv EN b0 nil0 capd0 l0, sv EN b1 nil1 capd1 l1, sv EN b2 nil2 capd2 l2], .obj [vi r0, vi r1, vi r2]])] [(2, .y (.one (.ptr 0 0))), (3, .y (.one (.ptr 1 0))), (8, xi 2), (9, xi r2), (35, xb false)] [.obj [sv EN b0 nil0 capd0 l0, sv EN b1 nil1 capd1 l1, sv EN b2 nil2 capd2 l2], .obj [vi r0, vi r1, vi r2]]
                      (cast (And.intro (ob_raw (P := pg) (A := an) (vals := [xi r2, xi 0]) (H := [.obj [sv EN b0 nil0 capd0 l0, sv EN b1 nil1 capd1 l1, sv EN b2 nil2 capd2 l2], .obj [vi r0, vi r1, vi r2]]) (op := .binOp .gtr 3 (.tmp 0) (.tmp 1) 3) (ty := 0) (r := xb (decide ((r2 : Int) > 0))) (v := xb false) (by kernel_rfl) (congrArg (fun z => xb z) (decide_eq_false (by omega)))) trivial) (by kernel_rfl)) (by kernel_rfl) ?_
                    refine Wp.condF (by kernel_rfl) ?_
                    refine Wp.skip ?_
                    refine Wp.region [] [(2, .y (.one (.ptr 0 0))), (3, .y (.one (.ptr 1 0))), (8, xi 3)] [.obj [sv EN b0 nil0 capd0 l0, sv EN b1 nil1 capd1 l1, sv EN b2 nil2 capd2 l2], .obj [vi r0, vi r1, vi r2]]
                      (cast trivial (by kernel_rfl)) (by kernel_rfl) ?_
                    refine ⟨[(2, .y (.one (.ptr 0 0))), (3, .y (.one (.ptr 1 0))), (8, xi 3)], [.obj [sv EN b0 nil0 capd0 l0, sv EN b1 nil1 capd1 l1, sv EN b2 nil2 capd2 l2], .obj [vi r0, vi r1, vi r2]], by kernel_rfl, ?_⟩
                    refine WpL.step ?_
                    refine Wp.seq ?_
                    refine Wp.regionSeq [] [(2, .y (.one (.ptr 0 0))), (3, .y (.one (.ptr 1 0))), (8, xi 3), (19, xb false)] [.obj [sv EN b0 nil0 capd0 l0, sv EN b1 nil1 capd1 l1, sv EN b2 nil2 capd2 l2], .obj [vi r0, vi r1, vi r2]]
                      (cast trivial (by kernel_rfl)) (by kernel_rfl) ?_
                    refine Wp.condF (by kernel_rfl) ?_
                    refine Wp.exit ?_
                    refine Eq.mpr (if_pos rfl) ?_
                    refine Wp.regionSeq [] [(4, xi 0), (5, xi 0), (6, xi 3)] [.obj [sv EN b0 nil0 capd0 l0, sv EN b1 nil1 capd1 l1, sv EN b2 nil2 capd2 l2], .obj [vi r0, vi r1, vi r2]]
                      (cast trivial (by kernel_rfl)) (by kernel_rfl) ?_
                    refine Wp.ret ?_
                    exact ⟨Or.inr rfl, [.one (vi 0), .one (vi 0), .one (vi 3)], by kernel_rfl, (by have hp : plan (half l0) (half l1) (half l2) r0 r1 r2 = (0, 0, 3) := by { unfold plan pick; repeat' first | rw [if_pos (by omega)] | rw [if_neg (by omega)] }; rw [hp]; rfl)⟩
                ·
                  refine Wp.regionSeq [(4, xb false, [.obj [sv EN b0 nil0 capd0 l0, sv EN b1 nil1 capd1 l1, sv EN b2 nil2 capd2 l2], .obj [vi r0, vi r1, vi r2]])] [(2, .y (.one (.ptr 0 0))), (3, .y (.one (.ptr 1 0))), (8, xi 2), (9, xi ((half l2))), (30, xb false)] [.obj [sv EN b0 nil0 capd0 l0, sv EN b1 nil1 capd1 l1, sv EN b2 nil2 capd2 l2], .obj [vi r0, vi r1, vi r2]]
                    (cast (And.intro (ob_raw (P := pg) (A := an) (vals := [xi ((half l2)), xi r2]) (H := [.obj [sv EN b0 nil0 capd0 l0, sv EN b1 nil1 capd1 l1, sv EN b2 nil2 capd2 l2], .obj [vi r0, vi r1, vi r2]]) (op := .binOp .gtr 3 (.tmp 0) (.tmp 1) 3) (ty := 0) (r := xb (decide ((((half l2)) : Int) > r2))) (v := xb false) (by kernel_rfl) (congrArg (fun z => xb z) (decide_eq_false (by omega)))) trivial) (by kernel_rfl)) (by kernel_rfl) ?_
                  refine Wp.condF (by kernel_rfl) ?_
                  refine Wp.skip ?_
                  by_cases c32 : (0 : Int) < ((half l2))
                  ·
                    refine Wp.regionSeq [(1, xb true, [.obj [sv EN b0 nil0 capd0 l0, sv EN b1 nil1 capd1 l1, sv EN b2 nil2 capd2 l2], .obj [vi r0, vi r1, vi r2]])] [(2, .y (.one (.ptr 0 0))), (3, .y (.one (.ptr 1 0))), (8, xi 2), (9, xi ((half l2))), (35, xb true)] [.obj [sv EN b0 nil0 capd0 l0, sv EN b1 nil1 capd1 l1, sv EN b2 nil2 capd2 l2], .obj [vi r0, vi r1, vi r2]]
                      (cast (And.intro (ob_raw (P := pg) (A := an) (vals := [xi ((half l2)), xi 0]) (H := [.obj [sv EN b0 nil0 capd0 l0, sv EN b1 nil1 capd1 l1, sv EN b2 nil2 capd2 l2], .obj [vi r0, vi r1, vi r2]]) (op := .binOp .gtr 3 (.tmp 0) (.tmp 1) 3) (ty := 0) (r := xb (decide ((((half l2)) : Int) > 0))) (v := xb true) (by kernel_rfl) (congrArg (fun z => xb z) (decide_eq_true (by omega)))) trivial) (by kernel_rfl)) (by kernel_rfl) ?_
                    refine Wp.condT (by kernel_rfl) ?_
                    refine Wp.regionSeq [] [(4, xi 2), (5, xi ((half l2))), (6, xi 0)] [.obj [sv EN b0 nil0 capd0 l0, sv EN b1 nil1 capd1 l1, sv EN b2 nil2 capd2 l2], .obj [vi r0, vi r1, vi r2]]
                      (cast trivial (by kernel_rfl)) (by kernel_rfl) ?_
                    refine Wp.ret ?_
                    exact ⟨Or.inr rfl, [.one (vi 2), .one (vi ((half l2))), .one (vi 0)], by kernel_rfl, (by have hp : plan (half l0) (half l1) (half l2) r0 r1 r2 = (2, ((half l2)), 0) := by { unfold plan pick; repeat' first | rw [if_pos (by omega)] | rw [if_neg (by omega)] }; rw [hp]; rfl)⟩
                  ·
                    refine Wp.regionSeq [(1, xb false, [.obj [sv EN b0 nil0 capd0 l0, sv EN b1 nil1 capd1 l1, sv EN b2 nil2 capd2 l2], .obj [vi r0, vi r1, vi r2]])] [(2, .y (.one (.ptr 0 0))), (3, .y (.one (.ptr 1 0))), (8, xi 2), (9, xi ((half l2))), (35, xb false)] [.obj [sv EN b0 nil0 capd0 l0, sv EN b1 nil1 capd1 l1, sv EN b2 nil2 capd2 l2], .obj [vi r0, vi r1, vi r2]]
                      (cast (And.intro (ob_raw (P := pg) (A := an) (vals := [xi ((half l2)), xi 0]) (H := [.obj [sv EN b0 nil0 capd0 l0, sv EN b1 nil1 capd1 l1, sv EN b2 nil2 capd2 l2], .obj [vi r0, vi r1, vi r2]]) (op := .binOp .gtr 3 (.tmp 0) (.tmp 1) 3) (ty := 0) (r := xb (decide ((((half l2)) : Int) > 0))) (v := xb false) (by kernel_rfl) (congrArg (fun z => xb z) (decide_eq_false (by omega)))) trivial) (by kernel_rfl)) (by kernel_rfl) ?_
                    refine Wp.condF (by kernel_rfl) ?_
                    refine Wp.skip ?_
                    refine Wp.region [] [(2, .y (.one (.ptr 0 0))), (3, .y (.one (.ptr 1 0))), (8, xi 3)] [.obj [sv EN b0 nil0 capd0 l0, sv EN b1 nil1 capd1 l1, sv EN b2 nil2 capd2 l2], .obj [vi r0, vi r1, vi r2]]
                      (cast trivial (by kernel_rfl)) (by kernel_rfl) ?_
                    refine ⟨[(2, .y (.one (.ptr 0 0))), (3, .y (.one (.ptr 1 0))), (8, xi 3)], [.obj [sv EN b0 nil0 capd0 l0, sv EN b1 nil1 capd1 l1, sv EN b2 nil2 capd2 l2], .obj [vi r0, vi r1, vi r2]], by kernel_rfl, ?_⟩
                    refine WpL.step ?_
                    refine Wp.seq ?_
                    refine Wp.regionSeq [] [(2, .y (.one (.ptr 0 0))), (3, .y (.one (.ptr 1 0))), (8, xi 3), (19, xb false)] [.obj [sv EN b0 nil0 capd0 l0, sv EN b1 nil1 capd1 l1, sv EN b2 nil2 capd2 l2], .obj [vi r0, vi r1, vi r2]]
                      (cast trivial (by kernel_rfl)) (by kernel_rfl) ?_
                    refine Wp.condF (by kernel_rfl) ?_
                    refine Wp.exit ?_
                    refine Eq.mpr (if_pos rfl) ?_
                    refine Wp.regionSeq [] [(4, xi 0), (5, xi 0), (6, xi 3)] [.obj [sv EN b0 nil0 capd0 l0, sv EN b1 nil1 capd1 l1, sv EN b2 nil2 capd2 l2], .obj [vi r0, vi r1, vi r2]]
                      (cast trivial (by kernel_rfl)) (by kernel_rfl) ?_
                    refine Wp.ret ?_
                    exact ⟨Or.inr rfl, [.one (vi 0), .one (vi 0), .one (vi 3)], by kernel_rfl, (by have hp : plan (half l0) (half l1) (half l2) r0 r1 r2 = (0, 0, 3) := by { unfold plan pick; repeat' first | rw [if_pos (by omega)] | rw [if_neg (by omega)] }; rw [hp]; rfl)⟩
            ·
              refine Wp.regionSeq [(4, xb false, [.obj [sv EN b0 nil0 capd0 l0, sv EN b1 nil1 capd1 l1, sv EN b2 nil2 capd2 l2], .obj [vi r0, vi r1, vi r2]])] [(2, .y (.one (.ptr 0 0))), (3, .y (.one (.ptr 1 0))), (8, xi 1), (9, xi ((half l1))), (30, xb false)] [.obj [sv EN b0 nil0 capd0 l0, sv EN b1 nil1 capd1 l1, sv EN b2 nil2 capd2 l2], .obj [vi r0, vi r1, vi r2]]
                (cast (And.intro (ob_raw (P := pg) (A := an) (vals := [xi ((half l1)), xi r1]) (H := [.obj [sv EN b0 nil0 capd0 l0, sv EN b1 nil1 capd1 l1, sv EN b2 nil2 capd2 l2], .obj [vi r0, vi r1, vi r2]]) (op := .binOp .gtr 3 (.tmp 0) (.tmp 1) 3) (ty := 0) (r := xb (decide ((((half l1)) : Int) > r1))) (v := xb false) (by kernel_rfl) (congrArg (fun z => xb z) (decide_eq_false (by omega)))) trivial) (by kernel_rfl)) (by kernel_rfl) ?_
              refine Wp.condF (by kernel_rfl) ?_
              refine Wp.skip ?_
              by_cases c33 : (0 : Int) < ((half l1))
              ·
                refine Wp.regionSeq [(1, xb true, [.obj [sv EN b0 nil0 capd0 l0, sv EN b1 nil1 capd1 l1, sv EN b2 nil2 capd2 l2], .obj [vi r0, vi r1, vi r2]])] [(2, .y (.one (.ptr 0 0))), (3, .y (.one (.ptr 1 0))), (8, xi 1), (9, xi ((half l1))), (35, xb true)] [.obj [sv EN b0 nil0 capd0 l0, sv EN b1 nil1 capd1 l1, sv EN b2 nil2 capd2 l2], .obj [vi r0, vi r1, vi r2]]
                  (cast (And.intro (ob_raw (P := pg) (A := an) (vals := [xi ((half l1)), xi 0]) (H := [.obj [sv EN b0 nil0 capd0 l0, sv EN b1 nil1 capd1 l1, sv EN b2 nil2 capd2 l2], .obj [vi r0, vi r1, vi r2]]) (op := .binOp .gtr 3 (.tmp 0) (.tmp 1) 3) (ty := 0) (r := xb (decide ((((half l1)) : Int) > 0))) (v := xb true) (by kernel_rfl) (congrArg (fun z => xb z) (decide_eq_true (by omega)))) trivial) (by kernel_rfl)) (by kernel_rfl) ?_
                refine Wp.condT (by kernel_rfl) ?_
                refine Wp.regionSeq [] [(4, xi 1), (5, xi ((half l1))), (6, xi 0)] [.obj [sv EN b0 nil0 capd0 l0, sv EN b1 nil1 capd1 l1, sv EN b2 nil2 capd2 l2], .obj [vi r0, vi r1, vi r2]]
                  (cast trivial (by kernel_rfl)) (by kernel_rfl) ?_
                refine Wp.ret ?_
                exact ⟨Or.inr rfl, [.one (vi 1), .one (vi ((half l1))), .one (vi 0)], by kernel_rfl, (by have hp : plan (half l0) (half l1) (half l2) r0 r1 r2 = (1, ((half l1)), 0) := by { unfold plan pick; repeat' first | rw [if_pos (by omega)] | rw [if_neg (by omega)] }; rw [hp]; rfl)⟩
              ·
                refine Wp.regionSeq [(1, xb false, [.obj [sv EN b0 nil0 capd0 l0, sv EN b1 nil1 capd1 l1, sv EN b2 nil2 capd2 l2], .obj [vi r0, vi r1, vi r2]])] [(2, .y (.one (.ptr 0 0))), (3, .y (.one (.ptr 1 0))), (8, xi 1), (9, xi ((half l1))), (35, xb false)] [.obj [sv EN b0 nil0 capd0 l0, sv EN b1 nil1 capd1 l1, sv EN b2 nil2 capd2 l2], .obj [vi r0, vi r1, vi r2]]
                  (cast (And.intro (ob_raw (P := pg) (A := an) (vals := [xi ((half l1)), xi 0]) (H := [.obj [sv EN b0 nil0 capd0 l0, sv EN b1 nil1 capd1 l1, sv EN b2 nil2 capd2 l2], .obj [vi r0, vi r1, vi r2]]) (op := .binOp .gtr 3 (.tmp 0) (.tmp 1) 3) (ty := 0) (r := xb (decide ((((half l1)) : Int) > 0))) (v := xb false) (by kernel_rfl) (congrArg (fun z => xb z) (decide_eq_false (by omega)))) trivial) (by kernel_rfl)) (by kernel_rfl) ?_
                refine Wp.condF (by kernel_rfl) ?_
                refine Wp.skip ?_
                refine Wp.region [] [(2, .y (.one (.ptr 0 0))), (3, .y (.one (.ptr 1 0))), (8, xi 2)] [.obj [sv EN b0 nil0 capd0 l0, sv EN b1 nil1 capd1 l1, sv EN b2 nil2 capd2 l2], .obj [vi r0, vi r1, vi r2]]
                  (cast trivial (by kernel_rfl)) (by kernel_rfl) ?_
                refine ⟨[(2, .y (.one (.ptr 0 0))), (3, .y (.one (.ptr 1 0))), (8, xi 2)], [.obj [sv EN b0 nil0 capd0 l0, sv EN b1 nil1 capd1 l1, sv EN b2 nil2 capd2 l2], .obj [vi r0, vi r1, vi r2]], by kernel_rfl, ?_⟩
                refine WpL.step ?_
                refine Wp.seq ?_
                refine Wp.regionSeq [] [(2, .y (.one (.ptr 0 0))), (3, .y (.one (.ptr 1 0))), (8, xi 2), (19, xb true)] [.obj [sv EN b0 nil0 capd0 l0, sv EN b1 nil1 capd1 l1, sv EN b2 nil2 capd2 l2], .obj [vi r0, vi r1, vi r2]]
                  (cast trivial (by kernel_rfl)) (by kernel_rfl) ?_
                refine Wp.condT (by kernel_rfl) ?_
                refine Wp.skip ?_
                refine Wp.seq ?_
                refine Wp.block ?_
                have hhz34 := half_is (l2)
                refine Wp.regionSeq [(3, xi ((half l2)), [.obj [sv EN b0 nil0 capd0 l0, sv EN b1 nil1 capd1 l1, sv EN b2 nil2 capd2 l2], .obj [vi r0, vi r1, vi r2]])] [(2, .y (.one (.ptr 0 0))), (3, .y (.one (.ptr 1 0))), (8, xi 2), (9, xi ((half l2)))] [.obj [sv EN b0 nil0 capd0 l0, sv EN b1 nil1 capd1 l1, sv EN b2 nil2 capd2 l2], .obj [vi r0, vi r1, vi r2]]
                  (cast (And.intro (ob_pure (P := pg) (A := an) (H := [.obj [sv EN b0 nil0 capd0 l0, sv EN b1 nil1 capd1 l1, sv EN b2 nil2 capd2 l2], .obj [vi r0, vi r1, vi r2]]) (g := 8) (vals := [.y (.one (sv EN b2 nil2 capd2 l2))]) (xs0 := [.one (sv EN b2 nil2 capd2 l2)]) (xs1 := [.one (sv EN b2 nil2 capd2 l2)]) (res := [.one (vi ((half l2)))]) (ats := #[]) (ty := 0) (v := xi ((half l2))) [.tmp 0] (by kernel_rfl) (by kernel_rfl) (by kernel_rfl) (fn8 _ _ _ l2 (by omega)) (by kernel_rfl)) trivial) (by kernel_rfl)) (by kernel_rfl) ?_
                refine Wp.seq ?_
                by_cases c36 : (r2 : Int) < ((half l2))
                ·
                  refine Wp.regionSeq [(4, xb true, [.obj [sv EN b0 nil0 capd0 l0, sv EN b1 nil1 capd1 l1, sv EN b2 nil2 capd2 l2], .obj [vi r0, vi r1, vi r2]])] [(2, .y (.one (.ptr 0 0))), (3, .y (.one (.ptr 1 0))), (8, xi 2), (9, xi ((half l2))), (30, xb true)] [.obj [sv EN b0 nil0 capd0 l0, sv EN b1 nil1 capd1 l1, sv EN b2 nil2 capd2 l2], .obj [vi r0, vi r1, vi r2]]
                    (cast (And.intro (ob_raw (P := pg) (A := an) (vals := [xi ((half l2)), xi r2]) (H := [.obj [sv EN b0 nil0 capd0 l0, sv EN b1 nil1 capd1 l1, sv EN b2 nil2 capd2 l2], .obj [vi r0, vi r1, vi r2]]) (op := .binOp .gtr 3 (.tmp 0) (.tmp 1) 3) (ty := 0) (r := xb (decide ((((half l2)) : Int) > r2))) (v := xb true) (by kernel_rfl) (congrArg (fun z => xb z) (decide_eq_true (by omega)))) trivial) (by kernel_rfl)) (by kernel_rfl) ?_
                  refine Wp.condT (by kernel_rfl) ?_
                  refine Wp.region [] [(2, .y (.one (.ptr 0 0))), (3, .y (.one (.ptr 1 0))), (8, xi 2), (9, xi r2)] [.obj [sv EN b0 nil0 capd0 l0, sv EN b1 nil1 capd1 l1, sv EN b2 nil2 capd2 l2], .obj [vi r0, vi r1, vi r2]]
                    (cast trivial (by kernel_rfl)) (by kernel_rfl) ?_
                  by_cases c37 : (0 : Int) < r2
                  ·
                    refine Wp.regionSeq [(1, xb true, [.obj [sv EN b0 nil0 capd0 l0, sv EN b1 nil1 capd1 l1, sv EN b2 nil2 capd2 l2], .obj [vi r0, vi r1, vi r2]])] [(2, .y (.one (.ptr 0 0))), (3, .y (.one (.ptr 1 0))), (8, xi 2), (9, xi r2), (35, xb true)] [.obj [sv EN b0 nil0 capd0 l0, sv EN b1 nil1 capd1 l1, sv EN b2 nil2 capd2 l2], .obj [vi r0, vi r1, vi r2]]
                      (cast (And.intro (ob_raw (P := pg) (A := an) (vals := [xi r2, xi 0]) (H := [.obj [sv EN b0 nil0 capd0 l0, sv EN b1 nil1 capd1 l1, sv EN b2 nil2 capd2 l2], .obj [vi r0, vi r1, vi r2]]) (op := .binOp .gtr 3 (.tmp 0) (.tmp 1) 3) (ty := 0) (r := xb (decide ((r2 : Int) > 0))) (v := xb true) (by kernel_rfl) (congrArg (fun z => xb z) (decide_eq_true (by omega)))) trivial) (by kernel_rfl)) (by kernel_rfl) ?_
                    refine Wp.condT (by kernel_rfl) ?_
                    refine Wp.regionSeq [] [(4, xi 2), (5, xi r2), (6, xi 0)] [.obj [sv EN b0 nil0 capd0 l0, sv EN b1 nil1 capd1 l1, sv EN b2 nil2 capd2 l2], .obj [vi r0, vi r1, vi r2]]
                      (cast trivial (by kernel_rfl)) (by kernel_rfl) ?_
                    refine Wp.ret ?_
                    exact ⟨Or.inr rfl, [.one (vi 2), .one (vi r2), .one (vi 0)], by kernel_rfl, (by have hp : plan (half l0) (half l1) (half l2) r0 r1 r2 = (2, r2, 0) := by { unfold plan pick; repeat' first | rw [if_pos (by omega)] | rw [if_neg (by omega)] }; rw [hp]; rfl)⟩
                  ·
                    refine Wp.regionSeq [(1, xb false, [.obj [sv EN b0 nil0 capd0 l0, sv EN b1 nil1 capd1 l1, sv EN b2 nil2 capd2 l2], .obj [vi r0, vi r1, vi r2]])] [(2, .y (.one (.ptr 0 0))), (3, .y (.one (.ptr 1 0))), (8, xi 2), (9, xi r2), (35, xb false)] [.obj [sv EN b0 nil0 capd0 l0, sv EN b1 nil1 capd1 l1, sv EN b2 nil2 capd2 l2], .obj [vi r0, vi r1, vi r2]]
                      (cast (And.intro (ob_raw (P := pg) (A := an) (vals := [xi r2, xi 0]) (H := [.obj [sv EN b0 nil0 capd0 l0, sv EN b1 nil1 capd1 l1, sv EN b2 nil2 capd2 l2], .obj [vi r0, vi r1, vi r2]]) (op := .binOp .gtr 3 (.tmp 0) (.tmp 1) 3) (ty := 0) (r := xb (decide ((r2 : Int) > 0))) (v := xb false) (by kernel_rfl) (congrArg (fun z => xb z) (decide_eq_false (by omega)))) trivial) (by kernel_rfl)) (by kernel_rfl) ?_
                    refine Wp.condF (by kernel_rfl) ?_
                    refine Wp.skip ?_
                    refine Wp.region [] [(2, .y (.one (.ptr 0 0))), (3, .y (.one (.ptr 1 0))), (8, xi 3)] [.obj [sv EN b0 nil0 capd0 l0, sv EN b1 nil1 capd1 l1, sv EN b2 nil2 capd2 l2], .obj [vi r0, vi r1, vi r2]]
                      (cast trivial (by kernel_rfl)) (by kernel_rfl) ?_
                    refine ⟨[(2, .y (.one (.ptr 0 0))), (3, .y (.one (.ptr 1 0))), (8, xi 3)], [.obj [sv EN b0 nil0 capd0 l0, sv EN b1 nil1 capd1 l1, sv EN b2 nil2 capd2 l2], .obj [vi r0, vi r1, vi r2]], by kernel_rfl, ?_⟩
                    refine WpL.step ?_
                    refine Wp.seq ?_
                    refine Wp.regionSeq [] [(2, .y (.one (.ptr 0 0))), (3, .y (.one (.ptr 1 0))), (8, xi 3), (19, xb false)] [.obj [sv EN b0 nil0 capd0 l0, sv EN b1 nil1 capd1 l1, sv EN b2 nil2 capd2 l2], .obj [vi r0, vi r1, vi r2]]
                      (cast trivial (by kernel_rfl)) (by kernel_rfl) ?_
                    refine Wp.condF (by kernel_rfl) ?_
                    refine Wp.exit ?_
                    refine Eq.mpr (if_pos rfl) ?_
                    refine Wp.regionSeq [] [(4, xi 0), (5, xi 0), (6, xi 3)] [.obj [sv EN b0 nil0 capd0 l0, sv EN b1 nil1 capd1 l1, sv EN b2 nil2 capd2 l2], .obj [vi r0, vi r1, vi r2]]
                      (cast trivial (by kernel_rfl)) (by kernel_rfl) ?_
                    refine Wp.ret ?_
                    exact ⟨Or.inr rfl, [.one (vi 0), .one (vi 0), .one (vi 3)], by kernel_rfl, (by have hp : plan (half l0) (half l1) (half l2) r0 r1 r2 = (0, 0, 3) := by { unfold plan pick; repeat' first | rw [if_pos (by omega)] | rw [if_neg (by omega)] }; rw [hp]; rfl)⟩
                ·
                  refine Wp.regionSeq [(4, xb false, [.obj [sv EN b0 nil0 capd0 l0, sv EN b1 nil1 capd1 l1, sv EN b2 nil2 capd2 l2], .obj [vi r0, vi r1, vi r2]])] [(2, .y (.one (.ptr 0 0))), (3, .y (.one (.ptr 1 0))), (8, xi 2), (9, xi ((half l2))), (30, xb false)] [.obj [sv EN b0 nil0 capd0 l0, sv EN b1 nil1 capd1 l1, sv EN b2 nil2 capd2 l2], .obj [vi r0, vi r1, vi r2]]
                    (cast (And.intro (ob_raw (P := pg) (A := an) (vals := [xi ((half l2)), xi r2]) (H := [.obj [sv EN b0 nil0 capd0 l0, sv EN b1 nil1 capd1 l1, sv EN b2 nil2 capd2 l2], .obj [vi r0, vi r1, vi r2]]) (op := .binOp .gtr 3 (.tmp 0) (.tmp 1) 3) (ty := 0) (r := xb (decide ((((half l2)) : Int) > r2))) (v := xb false) (by kernel_rfl) (congrArg (fun z => xb z) (decide_eq_false (by omega)))) trivial) (by kernel_rfl)) (by kernel_rfl) ?_
                  refine Wp.condF (by kernel_rfl) ?_
                  refine Wp.skip ?_
                  by_cases c38 : (0 : Int) < ((half l2))
                  ·
                    refine Wp.regionSeq [(1, xb true, [.obj [sv EN b0 nil0 capd0 l0, sv EN b1 nil1 capd1 l1, sv EN b2 nil2 capd2 l2], .obj [vi r0, vi r1, vi r2]])] [(2, .y (.one (.ptr 0 0))), (3, .y (.one (.ptr 1 0))), (8, xi 2), (9, xi ((half l2))), (35, xb true)] [.obj [sv EN b0 nil0 capd0 l0, sv EN b1 nil1 capd1 l1, sv EN b2 nil2 capd2 l2], .obj [vi r0, vi r1, vi r2]]
                      (cast (And.intro (ob_raw (P := pg) (A := an) (vals := [xi ((half l2)), xi 0]) (H := [.obj [sv EN b0 nil0 capd0 l0, sv EN b1 nil1 capd1 l1, sv EN b2 nil2 capd2 l2], .obj [vi r0, vi r1, vi r2]]) (op := .binOp .gtr 3 (.tmp 0) (.tmp 1) 3) (ty := 0) (r := xb (decide ((((half l2)) : Int) > 0))) (v := xb true) (by kernel_rfl) (congrArg (fun z => xb z) (decide_eq_true (by omega)))) trivial) (by kernel_rfl)) (by kernel_rfl) ?_
                    refine Wp.condT (by kernel_rfl) ?_
                    refine Wp.regionSeq [] [(4, xi 2), (5, xi ((half l2))), (6, xi 0)] [.obj [sv EN b0 nil0 capd0 l0, sv EN b1 nil1 capd1 l1, sv EN b2 nil2 capd2 l2], .obj [vi r0, vi r1, vi r2]]
                      (cast trivial (by kernel_rfl)) (by kernel_rfl) ?_
                    refine Wp.ret ?_
                    exact ⟨Or.inr rfl, [.one (vi 2), .one (vi ((half l2))), .one (vi 0)], by kernel_rfl, (by have hp : plan (half l0) (half l1) (half l2) r0 r1 r2 = (2, ((half l2)), 0) := by { unfold plan pick; repeat' first | rw [if_pos (by omega)] | rw [if_neg (by omega)] }; rw [hp]; rfl)⟩
                  ·
                    refine Wp.regionSeq [(1, xb false, [.obj [sv EN b0 nil0 capd0 l0, sv EN b1 nil1 capd1 l1, sv EN b2 nil2 capd2 l2], .obj [vi r0, vi r1, vi r2]])] [(2, .y (.one (.ptr 0 0))), (3, .y (.one (.ptr 1 0))), (8, xi 2), (9, xi ((half l2))), (35, xb false)] [.obj [sv EN b0 nil0 capd0 l0, sv EN b1 nil1 capd1 l1, sv EN b2 nil2 capd2 l2], .obj [vi r0, vi r1, vi r2]]
                      (cast (And.intro (ob_raw (P := pg) (A := an) (vals := [xi ((half l2)), xi 0]) (H := [.obj [sv EN b0 nil0 capd0 l0, sv EN b1 nil1 capd1 l1, sv EN b2 nil2 capd2 l2], .obj [vi r0, vi r1, vi r2]]) (op := .binOp .gtr 3 (.tmp 0) (.tmp 1) 3) (ty := 0) (r := xb (decide ((((half l2)) : Int) > 0))) (v := xb false) (by kernel_rfl) (congrArg (fun z => xb z) (decide_eq_false (by omega)))) trivial) (by kernel_rfl)) (by kernel_rfl) ?_
                    refine Wp.condF (by kernel_rfl) ?_
                    refine Wp.skip ?_
                    refine Wp.region [] [(2, .y (.one (.ptr 0 0))), (3, .y (.one (.ptr 1 0))), (8, xi 3)] [.obj [sv EN b0 nil0 capd0 l0, sv EN b1 nil1 capd1 l1, sv EN b2 nil2 capd2 l2], .obj [vi r0, vi r1, vi r2]]
                      (cast trivial (by kernel_rfl)) (by kernel_rfl) ?_
                    refine ⟨[(2, .y (.one (.ptr 0 0))), (3, .y (.one (.ptr 1 0))), (8, xi 3)], [.obj [sv EN b0 nil0 capd0 l0, sv EN b1 nil1 capd1 l1, sv EN b2 nil2 capd2 l2], .obj [vi r0, vi r1, vi r2]], by kernel_rfl, ?_⟩
                    refine WpL.step ?_
                    refine Wp.seq ?_
                    refine Wp.regionSeq [] [(2, .y (.one (.ptr 0 0))), (3, .y (.one (.ptr 1 0))), (8, xi 3), (19, xb false)] [.obj [sv EN b0 nil0 capd0 l0, sv EN b1 nil1 capd1 l1, sv EN b2 nil2 capd2 l2], .obj [vi r0, vi r1, vi r2]]
                      (cast trivial (by kernel_rfl)) (by kernel_rfl) ?_
                    refine Wp.condF (by kernel_rfl) ?_
                    refine Wp.exit ?_
                    refine Eq.mpr (if_pos rfl) ?_
                    refine Wp.regionSeq [] [(4, xi 0), (5, xi 0), (6, xi 3)] [.obj [sv EN b0 nil0 capd0 l0, sv EN b1 nil1 capd1 l1, sv EN b2 nil2 capd2 l2], .obj [vi r0, vi r1, vi r2]]
                      (cast trivial (by kernel_rfl)) (by kernel_rfl) ?_
                    refine Wp.ret ?_
                    exact ⟨Or.inr rfl, [.one (vi 0), .one (vi 0), .one (vi 3)], by kernel_rfl, (by have hp : plan (half l0) (half l1) (half l2) r0 r1 r2 = (0, 0, 3) := by { unfold plan pick; repeat' first | rw [if_pos (by omega)] | rw [if_neg (by omega)] }; rw [hp]; rfl)⟩
end Go.Proofs.Ytoidoeappihplaa
