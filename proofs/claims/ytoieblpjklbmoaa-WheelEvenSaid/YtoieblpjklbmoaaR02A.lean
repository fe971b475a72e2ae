/-
  Wheel: checks. (Printed by sx/r02.py.)
-/
import Derived.Test.YtoieblpjklbmoaaX19
import Derived.Test.YtoieblpjklbmoaaProg
import Derived.KernelRfl
namespace Go.Proofs.Ytoieblpjklbmoaa
open Go.Lg
set_option linter.unusedVariables false
set_option maxRecDepth 100000
set_option linter.unusedSimpArgs false
abbrev NI : Sh := .int .i64
def liveT : List (Nat × List (Nat × List Nat)) := [(3, [(0, [0, 1, 5]), (1, [0, 1, 5, 7]), (2, [0, 1, 5, 7, 8, 9, 10]), (3, [0, 7, 8, 9, 10, 11, 12, 13]), (4, [6])]),
  (4, [(0, [1]), (1, [1, 3, 4]), (2, [1, 3, 4, 5]), (3, [3, 4, 5, 7, 8]), (4, [3, 4, 5, 7, 8, 9, 10]), (5, [3, 5, 7, 9, 10, 42]), (6, [2]), (7, [3, 5, 7, 9, 10]), (8, [3, 5, 7, 9, 10]), (9, [3, 5, 7, 9, 10]), (10, [3, 5, 7, 9, 10]), (11, [2])]),
  (5, [(0, [0, 1, 2, 3]), (1, [0, 1, 2, 3, 9, 10]), (2, [0, 1, 2, 3, 9, 10, 35]), (3, [10, 12]), (4, [8]), (5, [0, 1, 2, 3, 9, 55]), (6, [8]), (7, [0, 1, 2, 3, 9, 13]), (8, [0, 1, 2, 3, 9, 13, 58]), (9, [0, 1, 2, 3, 9, 13]), (10, [0, 1, 2, 3, 9, 13, 14]), (11, [0, 1, 2, 3, 9, 13, 14, 65]), (12, [0, 1, 2, 3, 9, 13, 14, 65]), (13, [0, 1, 2, 3, 9, 13, 14, 65]), (14, [0, 1, 2, 3, 9, 13, 14]), (15, [0, 1, 2, 3, 9, 13, 14, 15, 16, 17]), (16, [0, 2, 3, 9, 13, 15, 16, 117]), (17, [8]), (18, [0, 2, 3, 9, 13, 16, 120]), (19, [8]), (20, [0, 1, 2, 3, 9, 13]), (21, [8])]),
  (6, [(0, [0, 1]), (1, [0, 1, 5, 6]), (2, [0, 1, 5, 6, 24]), (3, [5, 6, 8]), (4, [4]), (5, [0, 1, 5, 9]), (6, [0, 1, 5, 9, 10]), (7, [0, 1, 5, 9, 10, 11]), (8, [0, 1, 5, 9, 10, 11, 45]), (9, [0, 1, 5, 9, 10, 11]), (10, [0, 1, 5, 9, 10, 11, 12, 13]), (11, [0, 1, 5, 9, 10, 11, 12, 13, 52]), (12, [0, 1, 5, 9, 10, 11, 13, 14, 15, 16]), (13, [0, 1, 5, 9, 10, 11, 13, 14, 15, 72]), (14, [4]), (15, [0, 1, 5, 9, 10, 11, 13, 14, 15]), (16, [0, 1, 5, 9, 10, 11, 12, 13, 14]), (17, [0, 1, 5, 9, 10, 11, 12, 13, 78]), (18, [0, 1, 5, 9, 10, 11]), (19, [4])]),
  (7, [(0, [1]), (1, [1, 3, 4]), (2, [1, 3, 4, 18]), (3, [3, 4, 6]), (4, [2]), (5, [1, 3, 7]), (6, [1, 3, 7, 8]), (7, [1, 3, 7, 8, 38]), (8, [1, 3, 7, 8]), (9, [1, 3, 7, 8, 52]), (10, [2]), (11, [1, 3, 7, 8]), (12, [1, 3, 72]), (13, [2]), (14, [3, 9]), (15, [3, 10, 11]), (16, [3, 10, 11, 91]), (17, [2]), (18, [2])]),
  (8, [(0, [0, 1, 5]), (1, [0, 1, 5, 7]), (2, [0, 1, 5, 7, 8, 9]), (3, [0, 5, 7, 8, 9, 10, 11]), (4, [0, 5, 7, 8, 9, 10, 11, 12, 13]), (5, [0, 7, 8, 9, 10, 11, 12, 13, 14, 15]), (6, [6])]),
  (9, [(0, [0, 1, 2, 3]), (1, [0, 1, 2, 3, 9, 10]), (2, [0, 1, 2, 3, 9, 10, 26]), (3, [9, 10, 12]), (4, [8]), (5, [0, 1, 2, 3, 9, 56]), (6, [8]), (7, [0, 1, 2, 3, 9, 13, 14]), (8, [2, 3, 9, 13, 14, 15, 16]), (9, [2, 3, 9, 13, 14, 15, 16, 17]), (10, [2, 3, 9, 13, 14, 15, 16, 17, 83]), (11, [2, 3, 9, 13, 14, 15, 16, 17]), (12, [2, 3, 9, 13, 14, 15, 16, 17, 96]), (13, [8]), (14, [8])]),
  (10, [(0, [0]), (1, [0, 3]), (2, [0, 3]), (3, [0, 3, 4]), (4, [0, 3, 4, 13]), (5, [0, 3, 4]), (6, [0, 3, 4]), (7, [2])]),
  (15, [(0, [0, 1]), (1, [0, 1, 5]), (2, [0, 1, 5, 6]), (3, [0, 1, 5, 6, 13]), (4, [0, 1, 5, 6]), (5, [0, 1, 5, 6, 25]), (6, [4]), (7, [4])]),
  (11, [(0, [0, 1, 5]), (1, [0, 1, 5, 11]), (2, [6, 7, 8]), (3, [0, 1, 5, 15]), (4, [6, 7, 8]), (5, [0, 1, 5, 24]), (6, [0, 1, 5, 24, 25]), (7, [0, 1, 5, 9, 24]), (8, [0, 1, 5, 10, 24]), (9, [0, 1, 5, 10, 24, 36]), (10, [6, 7, 8]), (11, [0, 1, 5, 24]), (12, [6, 7, 8])]),
  (12, [(0, [0, 1, 5]), (1, [0, 1, 5, 13]), (2, [6, 7, 8]), (3, [0, 1, 5, 21]), (4, [6, 7, 8]), (5, [0, 1, 5, 9]), (6, [0, 1, 5, 9, 23]), (7, [0, 1, 5, 9]), (8, [0, 1, 5, 9, 10]), (9, [0, 1, 5, 9, 10, 35]), (10, [6, 7, 8]), (11, [6, 7, 8])]),
  (13, [(0, [0]), (1, [0, 9]), (2, [2]), (3, [0, 3]), (4, [3, 10, 11, 12]), (5, [3, 10, 11, 12, 13]), (6, [3, 5, 10, 11, 12]), (7, [3, 5, 10, 11, 12, 18]), (8, [2]), (9, [3, 10, 11, 12]), (10, [3, 10, 11, 12]), (11, [3, 22]), (12, [3, 22, 23]), (13, [3, 6, 22]), (14, [3, 22, 28]), (15, [2]), (16, [3, 22]), (17, [2])]),
  (14, [(0, [0]), (1, [0, 8]), (2, [2]), (3, [0, 3]), (4, [0, 3, 4]), (5, [0, 3, 4, 12]), (6, [0, 3, 4]), (7, [0, 3, 4, 26]), (8, [2]), (9, [0, 3, 4]), (10, [3, 5]), (11, [3, 5, 33]), (12, [3, 5]), (13, [3, 5, 39]), (14, [2]), (15, [2])]),
  (16, [(0, []), (1, [1, 2, 3]), (2, [1, 2, 3, 4, 5]), (3, [1, 2, 3, 4, 5, 6, 7]), (4, [0])]),
  (17, [(0, [1]), (1, [1, 4]), (2, [1, 4, 11, 12]), (3, [1, 4, 11, 12, 13]), (4, [1, 4, 6, 11, 12]), (5, [1, 4, 6, 11, 12, 20]), (6, [2, 3]), (7, [1, 4, 11, 12]), (8, [1, 4, 11, 12]), (9, [1, 4, 26]), (10, [2, 3]), (11, [1, 4, 7]), (12, [1, 4, 7, 8]), (13, [1, 4, 7, 8, 27, 28]), (14, [1, 4, 7, 8, 27, 28, 29]), (15, [1, 4, 7, 8, 9, 27, 28]), (16, [1, 4, 7, 8, 9, 27, 28, 30]), (17, [1, 4, 7, 8, 9, 27, 28, 30, 31]), (18, [1, 4, 7, 8, 9, 10, 27, 28, 30]), (19, [1, 4, 7, 8, 9, 10, 27, 28, 30]), (20, [1, 4, 7, 8, 9, 10, 27, 28, 30, 47]), (21, [1, 4, 7, 8, 9, 27, 28, 30]), (22, [1, 4, 7, 8, 9, 27, 28, 30]), (23, [1, 4, 7, 8, 9, 27, 28]), (24, [1, 4, 7, 8, 27, 28]), (25, [1, 4, 7, 8, 27, 28]), (26, [2, 3])]),
  (18, [(0, [1]), (1, [1, 4]), (2, [1, 4, 5]), (3, [1, 4, 5, 6]), (4, [1, 4, 5, 6, 12]), (5, [1, 4, 5, 6]), (6, [1, 4, 5, 6, 24]), (7, [2, 3]), (8, [1, 4, 5, 6]), (9, [1, 4, 5, 32]), (10, [2, 3]), (11, [1, 4, 5, 7]), (12, [1, 4, 5, 7, 8]), (13, [1, 4, 5, 7, 8, 36]), (14, [1, 4, 5, 7, 8]), (15, [1, 4, 5, 7, 8, 9]), (16, [1, 4, 5, 7, 8, 9, 10]), (17, [1, 4, 5, 7, 8, 9, 10, 40]), (18, [1, 4, 5, 7, 8, 9, 10]), (19, [1, 4, 5, 7, 8, 9, 10]), (20, [1, 4, 5, 7, 8, 9, 10, 58]), (21, [1, 4, 5, 7, 8, 9, 10]), (22, [1, 4, 5, 7, 8, 9]), (23, [1, 4, 5, 7, 8]), (24, [2, 3])]),
  (19, [(0, []), (1, [1]), (2, [0])]),
  (20, [(0, [0, 1]), (1, [0, 1, 10]), (2, [4]), (3, [0, 1, 5]), (4, [0, 1, 5, 14]), (5, [0, 1, 5]), (6, [0, 1, 5, 25]), (7, [4]), (8, [4])]),
  (21, [(0, []), (1, [0])]),
  (22, [(0, [0, 1, 4]), (1, [0, 1, 4, 8]), (2, [0, 1, 4]), (3, [0, 1, 4])]),
  (23, [(0, [0, 1, 4]), (1, [0, 1, 4, 6]), (2, [0, 1, 4]), (3, [0, 1, 4])]),
  (24, [(0, [0, 1]), (1, [0, 1, 5]), (2, [0, 1, 5, 9]), (3, [0, 1, 5]), (4, [0, 1, 5, 18]), (5, [4]), (6, [4])]),
  (25, [(0, [0, 1]), (1, [0, 1, 6]), (2, [0, 1, 6, 13]), (3, [4, 5]), (4, [0, 1, 17]), (5, [4, 5]), (6, [0, 1, 7]), (7, [0, 1, 7, 19, 20]), (8, [0, 1, 7, 19, 20, 21]), (9, [0, 1, 7, 8, 19, 20]), (10, [0, 1, 7, 8, 9, 19, 20]), (11, [0, 1, 7, 8, 9, 19, 20, 34]), (12, [0, 1, 7, 8, 9, 19, 20]), (13, [0, 1, 7, 19, 20]), (14, [0, 1, 7, 19, 20]), (15, [4, 5])]),
  (26, [(0, [0, 1]), (1, [0, 1, 11]), (2, [4, 5]), (3, [0, 1, 17]), (4, [4, 5]), (5, [0, 1, 6]), (6, [0, 1, 6, 7]), (7, [0, 1, 6, 7, 21]), (8, [0, 1, 6, 7]), (9, [0, 1, 6, 7, 8]), (10, [0, 1, 6, 7, 8, 35]), (11, [0, 1, 6, 7, 8]), (12, [0, 1, 6, 7, 8, 40]), (13, [0, 1, 6, 7]), (14, [4, 5])]),
  (27, [(0, [0, 1, 2, 6]), (1, [0, 1, 2, 6, 8]), (2, [0, 1, 2, 6, 8, 9]), (3, [0, 1, 2, 6, 8, 9, 16]), (4, [6, 7]), (5, [0, 1, 2, 6, 8, 30]), (6, [6, 7]), (7, [0, 1, 2, 6, 8, 32, 33, 34]), (8, [0, 1, 2, 6, 8, 32, 33, 34, 35]), (9, [0, 1, 2, 6, 8, 11, 32, 33, 34]), (10, [0, 1, 2, 6, 8, 32, 33, 34]), (11, [0, 1, 2, 6, 8, 32, 33, 34]), (12, [0, 1, 6, 8, 51, 52]), (13, [0, 1, 6, 8, 51, 52, 53]), (14, [0, 1, 6, 8, 12, 51, 52]), (15, [0, 1, 6, 8, 51, 52]), (16, [0, 1, 6, 8, 51, 52]), (17, [6, 7])]),
  (28, [(0, [0, 1, 2, 6]), (1, [0, 1, 2, 6, 8]), (2, [0, 1, 2, 6, 8, 15]), (3, [6, 7]), (4, [0, 1, 2, 6, 8, 28]), (5, [6, 7]), (6, [0, 1, 2, 6, 8, 9]), (7, [0, 1, 2, 6, 8, 9, 10]), (8, [0, 1, 2, 6, 8, 9, 10, 34]), (9, [0, 1, 2, 6, 8, 9, 10]), (10, [0, 1, 2, 6, 8, 9, 10]), (11, [0, 1, 2, 6, 8, 9, 11]), (12, [0, 1, 2, 6, 8, 9, 11, 56]), (13, [0, 1, 2, 6, 8, 9, 11]), (14, [0, 1, 2, 6, 8, 9, 11, 12]), (15, [0, 1, 2, 6, 8, 9, 11]), (16, [6, 7])]),
  (29, [(0, [0]), (1, [2])])]
def loopT : List (Nat × List (Nat × (List Nat × Bool))) := [(5, [(8, ([0, 1, 2, 3, 9, 13], true))]),
  (6, [(8, ([0, 1, 5, 9, 10, 11], true)), (11, ([0, 1, 5, 9, 10, 11, 12, 13], true))]),
  (7, [(7, ([1, 3, 7, 8], true))]),
  (9, [(10, ([2, 3, 9, 13, 14, 15, 16, 17], true))]),
  (10, [(4, ([0, 3, 4], false))]),
  (15, [(3, ([0, 1, 5, 6], false))]),
  (11, [(6, ([0, 1, 5, 24], true))]),
  (12, [(6, ([0, 1, 5, 9], true))]),
  (13, [(5, ([3, 10, 11, 12], true)), (12, ([3, 22], true))]),
  (14, [(5, ([0, 3, 4], true)), (11, ([3, 5], true))]),
  (17, [(3, ([1, 4, 11, 12], false)), (14, ([1, 4, 7, 8, 27, 28], false)), (17, ([1, 4, 7, 8, 9, 27, 28, 30], false))]),
  (18, [(4, ([1, 4, 5, 6], false)), (13, ([1, 4, 5, 7, 8], false)), (17, ([1, 4, 5, 7, 8, 9, 10], false))]),
  (20, [(4, ([0, 1, 5], true))]),
  (22, [(1, ([0, 1, 4], true))]),
  (23, [(1, ([0, 1, 4], true))]),
  (24, [(2, ([0, 1, 5], true))]),
  (25, [(8, ([0, 1, 7, 19, 20], true)), (11, ([0, 1, 7, 8, 9, 19, 20], true))]),
  (26, [(7, ([0, 1, 6, 7], true)), (10, ([0, 1, 6, 7, 8], true))]),
  (27, [(8, ([0, 1, 2, 6, 8, 32, 33, 34], true)), (13, ([0, 1, 6, 8, 51, 52], true))]),
  (28, [(8, ([0, 1, 2, 6, 8, 9, 10], true)), (12, ([0, 1, 2, 6, 8, 9, 11], true))])]

def tab {α : Type} (T : List (Nat × List (Nat × α))) (f r : Nat) : Option α := (T.lookup f).bind (List.lookup r)
abbrev an : Ann := { pureSl := fun _ => true, pureFn := fun f => [11, 12, 13, 14, 16, 17, 18, 20, 25, 26, 27, 28, 29].contains f, live := tab liveT, loop := tab loopT, may := fun f => [3, 4, 5, 6, 7, 8, 9, 10, 15, 11, 12, 13, 14, 16, 17, 18, 19, 20, 21, 22, 23, 24, 25, 26, 27, 28, 29].contains f }
noncomputable abbrev pg : Program := Try.prog
def inW (c : Int) : Bool := decide (0 ≤ c ∧ c < 3)
def okW (l : List Int) : Bool := decide (l.length ≤ 64) && (l.all inW && (l.contains 0 && (l.contains 1 && l.contains 2)))
theorem fn16 : PureC pg an 16 [] [.one (vb true)] := pure_of 300 (by kernel_rfl)
theorem take_snoc {l : List Int} {i : Int} {x : Int} (h : 0 ≤ i) (hx : l[i.toNat]? = some x) : l.take (i + 1).toNat = l.take i.toNat ++ [x] := by
  rw [show (i + 1).toNat = i.toNat + 1 by omega, List.take_add_one, hx]; rfl
theorem not_ok {l : List Int} {i x : Int} (hx : l[i.toNat]? = some x) (h : inW x = false) : okW l = false := by
  have : l.all inW = false := by
    rw [List.all_eq_false]
    exact ⟨x, List.mem_of_getElem? hx, by simp [h]⟩
  simp [okW, this]
theorem all_snoc {l : List Int} {x : Int} {t : Bool} {c : Int} (h : t = l.contains c) (b : Bool) (hb : (x == c) = b) : (t || b) = (l ++ [x]).contains c := by
  subst h; subst hb
  rw [Bool.eq_iff_iff]
  simp only [Bool.or_eq_true, List.contains_iff_mem, beq_iff_eq, List.mem_append, List.mem_singleton]
  constructor
  · rintro (h | h)
    · exact .inl h
    · exact .inr h.symm
  · rintro (h | h)
    · exact .inl h
    · exact .inr h.symm
theorem has_snoc (l : List Int) (x : Int) : true = (l ++ [x]).contains x := by
  rw [eq_comm, List.contains_iff_mem]; simp

def clsW (c : Int) : Bool := inW c
theorem fn29 (c : Int) : PureC pg an 29 [.one (vi c)] [.one (vb (inW c))] := by
  refine Runs.of (fn := Try.f29) Try.func29 rfl (by kernel_rfl) [(0, xi c)] (by kernel_rfl) ?_
  refine Wp.regionSeq [] [(0, xi c)] []
    (cast trivial (by kernel_rfl)) (by kernel_rfl) ?_
  by_cases c1 : (0 : Int) ≤ c
  ·
    by_cases c2 : (c : Int) < 3
    ·
      refine Wp.regionSeq [(1, xb true, []), (4, xb true, [])] [(2, xb true)] []
        (cast (And.intro (ob_raw (P := pg) (A := an) (vals := [xi c, xi 0]) (H := []) (op := .binOp .geq 3 (.tmp 0) (.tmp 1) 3) (ty := 0) (r := xb (decide ((c : Int) ≥ 0))) (v := xb true) (by kernel_rfl) (congrArg (fun z => xb z) (decide_eq_true (by omega)))) (And.intro (ob_raw (P := pg) (A := an) (vals := [xi c, xi 3]) (H := []) (op := .binOp .lss 3 (.tmp 0) (.tmp 1) 3) (ty := 0) (r := xb (decide ((c : Int) < 3))) (v := xb true) (by kernel_rfl) (congrArg (fun z => xb z) (decide_eq_true (by omega)))) trivial)) (by kernel_rfl)) (by kernel_rfl) ?_
      refine Wp.ret ?_
      exact ⟨Or.inr rfl, [.one (vb true)], by kernel_rfl, (congrArg (fun z => some [Y.one (vb z)]) (show true = inW c from by unfold inW; simp; omega))⟩
    ·
      refine Wp.regionSeq [(1, xb true, []), (4, xb false, [])] [(2, xb false)] []
        (cast (And.intro (ob_raw (P := pg) (A := an) (vals := [xi c, xi 0]) (H := []) (op := .binOp .geq 3 (.tmp 0) (.tmp 1) 3) (ty := 0) (r := xb (decide ((c : Int) ≥ 0))) (v := xb true) (by kernel_rfl) (congrArg (fun z => xb z) (decide_eq_true (by omega)))) (And.intro (ob_raw (P := pg) (A := an) (vals := [xi c, xi 3]) (H := []) (op := .binOp .lss 3 (.tmp 0) (.tmp 1) 3) (ty := 0) (r := xb (decide ((c : Int) < 3))) (v := xb false) (by kernel_rfl) (congrArg (fun z => xb z) (decide_eq_false (by omega)))) trivial)) (by kernel_rfl)) (by kernel_rfl) ?_
      refine Wp.ret ?_
      exact ⟨Or.inr rfl, [.one (vb false)], by kernel_rfl, (congrArg (fun z => some [Y.one (vb z)]) (show false = inW c from by unfold inW; simp; omega))⟩
  ·
    refine Wp.regionSeq [(1, xb false, [])] [(2, xb false)] []
      (cast (And.intro (ob_raw (P := pg) (A := an) (vals := [xi c, xi 0]) (H := []) (op := .binOp .geq 3 (.tmp 0) (.tmp 1) 3) (ty := 0) (r := xb (decide ((c : Int) ≥ 0))) (v := xb false) (by kernel_rfl) (congrArg (fun z => xb z) (decide_eq_false (by omega)))) trivial) (by kernel_rfl)) (by kernel_rfl) ?_
    refine Wp.ret ?_
    exact ⟨Or.inr rfl, [.one (vb false)], by kernel_rfl, (congrArg (fun z => some [Y.one (vb z)]) (show false = inW c from by unfold inW; simp; omega))⟩
theorem ok_of {l : List Int} {t0 t1 t2 : Bool} (h : l.length ≤ 64) (ha : l.all inW = true) (h0 : t0 = l.contains 0) (h1 : t1 = l.contains 1) (h2 : t2 = l.contains 2) : okW l = (t0 && (t1 && t2)) := by
  subst h0; subst h1; subst h2
  simp [okW, ha, h]
theorem fn13 (b nil capd : Bool) (l : List Int) (hl : (l.length : Int) ≤ 4611686018427387904) : PureC pg an 13 [.one (sv NI b nil capd l)] [.one (vi (if okW l then 0 else 20))] := by
  refine Runs.of (fn := Try.f13) Try.func13 rfl (by kernel_rfl) [(0, .y (.one (sv NI b nil capd l)))] (by kernel_rfl) ?_
  refine Wp.regionSeq [] [(0, .y (.one (sv NI b nil capd l)))] []
    (cast trivial (by kernel_rfl)) (by kernel_rfl) ?_
  refine Wp.seq ?_
  by_cases c1 : (64 : Int) < (l.length : Int)
  ·
    refine Wp.regionSeq [(2, xb true, [])] [(0, .y (.one (sv NI b nil capd l))), (9, xb true)] []
      (cast (And.intro (ob_raw (P := pg) (A := an) (vals := [xi (l.length : Int), xi 64]) (H := []) (op := .binOp .gtr 3 (.tmp 0) (.tmp 1) 3) (ty := 0) (r := xb (decide (((l.length : Int) : Int) > 64))) (v := xb true) (by kernel_rfl) (congrArg (fun z => xb z) (decide_eq_true (by omega)))) trivial) (by kernel_rfl)) (by kernel_rfl) ?_
    refine Wp.condT (by kernel_rfl) ?_
    refine Wp.regionSeq [] [(2, xi 20)] []
      (cast trivial (by kernel_rfl)) (by kernel_rfl) ?_
    refine Wp.ret ?_
    exact ⟨Or.inr rfl, [.one (vi 20)], by kernel_rfl, (congrArg (fun z => some [Y.one (vi z)]) (show (20 : Int) = (if okW l then 0 else 20) from by rw [show okW l = false from by unfold okW; rw [decide_eq_false (by omega)]; rfl]; rfl))⟩
  ·
    refine Wp.regionSeq [(2, xb false, [])] [(0, .y (.one (sv NI b nil capd l))), (9, xb false)] []
      (cast (And.intro (ob_raw (P := pg) (A := an) (vals := [xi (l.length : Int), xi 64]) (H := []) (op := .binOp .gtr 3 (.tmp 0) (.tmp 1) 3) (ty := 0) (r := xb (decide (((l.length : Int) : Int) > 64))) (v := xb false) (by kernel_rfl) (congrArg (fun z => xb z) (decide_eq_false (by omega)))) trivial) (by kernel_rfl)) (by kernel_rfl) ?_
    refine Wp.condF (by kernel_rfl) ?_
    refine Wp.skip ?_
    refine Wp.regionSeq [] [(0, .y (.one (sv NI b nil capd l))), (3, .y (.one (.ptr 0 0)))] [.obj [vb false, vb false, vb false]]
      (cast trivial (by kernel_rfl)) (by kernel_rfl) ?_
    refine Wp.seq ?_
    refine Wp.regionSeq [] [(3, .y (.one (.ptr 0 0))), (10, .y (.one (sv NI b nil capd l))), (11, xi (l.length : Int)), (12, xi 0)] [.obj [vb false, vb false, vb false]]
      (cast trivial (by kernel_rfl)) (by kernel_rfl) ?_
    refine Wp.block ?_
    refine Wp.loop (T := Int × Bool × Bool × Bool) (fun (t : Int × Bool × Bool × Bool) => match t with | (i, p0, p1, p2) => (((l.length : Int) - i).toNat : Nat)) (fun (t : Int × Bool × Bool × Bool) => match t with | (i, p0, p1, p2) => ([(3, .y (.one (.ptr 0 0))), (10, .y (.one (sv NI b nil capd l))), (11, xi (l.length : Int)), (12, xi i)] : Env)) (fun (t : Int × Bool × Bool × Bool) => match t with | (i, p0, p1, p2) => ([.obj [vb p0, vb p1, vb p2]] : Go.Lg.Heap))
      (fun (t : Int × Bool × Bool × Bool) => match t with | (i, p0, p1, p2) => (0 ≤ i ∧ i ≤ (l.length : Int) ∧ (l.take i.toNat).all inW = true ∧ p0 = (l.take i.toNat).contains 0 ∧ p1 = (l.take i.toNat).contains 1 ∧ p2 = (l.take i.toNat).contains 2 : Prop)) (0, false, false, false) (by kernel_rfl) (by exact ⟨by omega, by omega, by simp, by simp, by simp, by simp⟩) ?_
    rintro ⟨i, p0, p1, p2⟩ ⟨h1, h2, h3, h4, h5, h6⟩
    show Wp _ _ _ _ [(3, .y (.one (.ptr 0 0))), (10, .y (.one (sv NI b nil capd l))), (11, xi (l.length : Int)), (12, xi i)] [.obj [vb p0, vb p1, vb p2]] _
    by_cases c2 : (i : Int) < (l.length : Int)
    ·
      refine Wp.regionSeq [(0, xb true, [.obj [vb p0, vb p1, vb p2]])] [(3, .y (.one (.ptr 0 0))), (10, .y (.one (sv NI b nil capd l))), (11, xi (l.length : Int)), (12, xi i), (13, xb true)] [.obj [vb p0, vb p1, vb p2]]
        (cast (And.intro (ob_raw (P := pg) (A := an) (vals := [xi i, xi (l.length : Int)]) (H := [.obj [vb p0, vb p1, vb p2]]) (op := .binOp .lss 3 (.tmp 0) (.tmp 1) 3) (ty := 0) (r := xb (decide ((i : Int) < (l.length : Int)))) (v := xb true) (by kernel_rfl) (congrArg (fun z => xb z) (decide_eq_true (by omega)))) trivial) (by kernel_rfl)) (by kernel_rfl) ?_
      refine Wp.seq ?_
      refine Wp.condT (by kernel_rfl) ?_
      refine Wp.skip ?_
      refine Wp.seq ?_
      refine Wp.block ?_
      obtain ⟨x3, hx3⟩ : ∃ x, l[(i : Int).toNat]? = some x := get_of (by omega)
      refine Wp.regionSeq [(0, .y (.one (.rd ([vi x3] ++ (l.drop ((i : Int).toNat + 1)).flatMap (enc NI)))), [.obj [vb p0, vb p1, vb p2]])] [(3, .y (.one (.ptr 0 0))), (5, xi x3), (10, .y (.one (sv NI b nil capd l))), (11, xi (l.length : Int)), (12, xi i)] [.obj [vb p0, vb p1, vb p2]]
        (cast (And.intro (ob_index (P := pg) (A := an) (H := [.obj [vb p0, vb p1, vb p2]]) (s := NI) (b := b) (nil := nil) (capd := capd) (t := 22) (el := 3) (i := i) Try.underlying22 (by kernel_rfl) (by kernel_rfl) (by omega) hx3) trivial) (by kernel_rfl)) (by kernel_rfl) ?_
      refine Wp.seq ?_
      by_cases c4 : (0 : Int) ≤ x3
      ·
        by_cases c5 : (x3 : Int) < 3
        ·
          refine Wp.regionSeq [(1, xb true, [.obj [vb p0, vb p1, vb p2]])] [(3, .y (.one (.ptr 0 0))), (5, xi x3), (10, .y (.one (sv NI b nil capd l))), (11, xi (l.length : Int)), (12, xi i), (18, xb false)] [.obj [vb p0, vb p1, vb p2]]
            (cast (And.intro (ob_pure (P := pg) (A := an) (H := [.obj [vb p0, vb p1, vb p2]]) (g := 29) (vals := [xi x3]) (xs0 := [.one (vi x3)]) (xs1 := [.one (vi x3)]) (res := [.one (vb true)]) (ats := #[]) (ty := 0) (v := xb true) [.tmp 0] (by kernel_rfl) (by kernel_rfl) (by kernel_rfl) (by have := fn29 x3; rw [show inW x3 = true from by unfold inW; simp; omega] at this; exact this) (by kernel_rfl)) trivial) (by kernel_rfl)) (by kernel_rfl) ?_
          refine Wp.condF (by kernel_rfl) ?_
          refine Wp.skip ?_
          rcases (show x3 = 0 ∨ x3 = 1 ∨ x3 = 2 from by omega) with rfl | rfl | rfl
          ·
            refine Wp.region [] [(3, .y (.one (.ptr 0 0))), (10, .y (.one (sv NI b nil capd l))), (11, xi (l.length : Int)), (12, xi i)] [.obj [vb true, vb p1, vb p2]]
              (cast trivial (by kernel_rfl)) (by kernel_rfl) ?_
            refine Wp.region [(0, xi (i + 1), [.obj [vb true, vb p1, vb p2]])] [(3, .y (.one (.ptr 0 0))), (10, .y (.one (sv NI b nil capd l))), (11, xi (l.length : Int)), (12, xi (i + 1))] [.obj [vb true, vb p1, vb p2]]
              (cast (And.intro (ob_raw (P := pg) (A := an) (vals := [xi i, xi 1]) (H := [.obj [vb true, vb p1, vb p2]]) (op := .binOp .add 3 (.tmp 0) (.tmp 1) 3) (ty := 0) (r := xi (IntKind.wrap .i64 (i + 1))) (v := xi (i + 1)) (by kernel_rfl) (congrArg (fun z => xi z) ((wrap64 (by omega)).trans (by omega)))) trivial) (by kernel_rfl)) (by kernel_rfl) ?_
            exact ⟨((i + 1), true, p1, p2), by kernel_rfl, (by have hs := take_snoc (i := i) (by omega) hx3; exact ⟨by omega, by omega, by rw [hs, List.all_append, h3]; decide, by rw [hs]; exact has_snoc _ _, by rw [hs, ← all_snoc (h5) false (by decide)]; simp, by rw [hs, ← all_snoc (h6) false (by decide)]; simp⟩), (by show (_ : Nat) < _; simp only []; omega)⟩
          ·
            refine Wp.region [] [(3, .y (.one (.ptr 0 0))), (10, .y (.one (sv NI b nil capd l))), (11, xi (l.length : Int)), (12, xi i)] [.obj [vb p0, vb true, vb p2]]
              (cast trivial (by kernel_rfl)) (by kernel_rfl) ?_
            refine Wp.region [(0, xi (i + 1), [.obj [vb p0, vb true, vb p2]])] [(3, .y (.one (.ptr 0 0))), (10, .y (.one (sv NI b nil capd l))), (11, xi (l.length : Int)), (12, xi (i + 1))] [.obj [vb p0, vb true, vb p2]]
              (cast (And.intro (ob_raw (P := pg) (A := an) (vals := [xi i, xi 1]) (H := [.obj [vb p0, vb true, vb p2]]) (op := .binOp .add 3 (.tmp 0) (.tmp 1) 3) (ty := 0) (r := xi (IntKind.wrap .i64 (i + 1))) (v := xi (i + 1)) (by kernel_rfl) (congrArg (fun z => xi z) ((wrap64 (by omega)).trans (by omega)))) trivial) (by kernel_rfl)) (by kernel_rfl) ?_
            exact ⟨((i + 1), p0, true, p2), by kernel_rfl, (by have hs := take_snoc (i := i) (by omega) hx3; exact ⟨by omega, by omega, by rw [hs, List.all_append, h3]; decide, by rw [hs, ← all_snoc (h4) false (by decide)]; simp, by rw [hs]; exact has_snoc _ _, by rw [hs, ← all_snoc (h6) false (by decide)]; simp⟩), (by show (_ : Nat) < _; simp only []; omega)⟩
          ·
            refine Wp.region [] [(3, .y (.one (.ptr 0 0))), (10, .y (.one (sv NI b nil capd l))), (11, xi (l.length : Int)), (12, xi i)] [.obj [vb p0, vb p1, vb true]]
              (cast trivial (by kernel_rfl)) (by kernel_rfl) ?_
            refine Wp.region [(0, xi (i + 1), [.obj [vb p0, vb p1, vb true]])] [(3, .y (.one (.ptr 0 0))), (10, .y (.one (sv NI b nil capd l))), (11, xi (l.length : Int)), (12, xi (i + 1))] [.obj [vb p0, vb p1, vb true]]
              (cast (And.intro (ob_raw (P := pg) (A := an) (vals := [xi i, xi 1]) (H := [.obj [vb p0, vb p1, vb true]]) (op := .binOp .add 3 (.tmp 0) (.tmp 1) 3) (ty := 0) (r := xi (IntKind.wrap .i64 (i + 1))) (v := xi (i + 1)) (by kernel_rfl) (congrArg (fun z => xi z) ((wrap64 (by omega)).trans (by omega)))) trivial) (by kernel_rfl)) (by kernel_rfl) ?_
            exact ⟨((i + 1), p0, p1, true), by kernel_rfl, (by have hs := take_snoc (i := i) (by omega) hx3; exact ⟨by omega, by omega, by rw [hs, List.all_append, h3]; decide, by rw [hs, ← all_snoc (h4) false (by decide)]; simp, by rw [hs, ← all_snoc (h5) false (by decide)]; simp, by rw [hs]; exact has_snoc _ _⟩), (by show (_ : Nat) < _; simp only []; omega)⟩
        ·
          refine Wp.regionSeq [(1, xb false, [.obj [vb p0, vb p1, vb p2]])] [(3, .y (.one (.ptr 0 0))), (5, xi x3), (10, .y (.one (sv NI b nil capd l))), (11, xi (l.length : Int)), (12, xi i), (18, xb true)] [.obj [vb p0, vb p1, vb p2]]
            (cast (And.intro (ob_pure (P := pg) (A := an) (H := [.obj [vb p0, vb p1, vb p2]]) (g := 29) (vals := [xi x3]) (xs0 := [.one (vi x3)]) (xs1 := [.one (vi x3)]) (res := [.one (vb false)]) (ats := #[]) (ty := 0) (v := xb false) [.tmp 0] (by kernel_rfl) (by kernel_rfl) (by kernel_rfl) (by have := fn29 x3; rw [show inW x3 = false from by unfold inW; simp; omega] at this; exact this) (by kernel_rfl)) trivial) (by kernel_rfl)) (by kernel_rfl) ?_
          refine Wp.condT (by kernel_rfl) ?_
          refine Wp.regionSeq [] [(2, xi 20)] [.obj [vb p0, vb p1, vb p2]]
            (cast trivial (by kernel_rfl)) (by kernel_rfl) ?_
          refine Wp.ret ?_
          exact ⟨Or.inr rfl, [.one (vi 20)], by kernel_rfl, (congrArg (fun z => some [Y.one (vi z)]) (show (20 : Int) = (if okW l then 0 else 20) from by rw [not_ok hx3 (by unfold inW; simp; omega)]; rfl))⟩
      ·
        refine Wp.regionSeq [(1, xb false, [.obj [vb p0, vb p1, vb p2]])] [(3, .y (.one (.ptr 0 0))), (5, xi x3), (10, .y (.one (sv NI b nil capd l))), (11, xi (l.length : Int)), (12, xi i), (18, xb true)] [.obj [vb p0, vb p1, vb p2]]
          (cast (And.intro (ob_pure (P := pg) (A := an) (H := [.obj [vb p0, vb p1, vb p2]]) (g := 29) (vals := [xi x3]) (xs0 := [.one (vi x3)]) (xs1 := [.one (vi x3)]) (res := [.one (vb false)]) (ats := #[]) (ty := 0) (v := xb false) [.tmp 0] (by kernel_rfl) (by kernel_rfl) (by kernel_rfl) (by have := fn29 x3; rw [show inW x3 = false from by unfold inW; simp; omega] at this; exact this) (by kernel_rfl)) trivial) (by kernel_rfl)) (by kernel_rfl) ?_
        refine Wp.condT (by kernel_rfl) ?_
        refine Wp.regionSeq [] [(2, xi 20)] [.obj [vb p0, vb p1, vb p2]]
          (cast trivial (by kernel_rfl)) (by kernel_rfl) ?_
        refine Wp.ret ?_
        exact ⟨Or.inr rfl, [.one (vi 20)], by kernel_rfl, (congrArg (fun z => some [Y.one (vi z)]) (show (20 : Int) = (if okW l then 0 else 20) from by rw [not_ok hx3 (by unfold inW; simp; omega)]; rfl))⟩
    ·
      refine Wp.regionSeq [(0, xb false, [.obj [vb p0, vb p1, vb p2]])] [(3, .y (.one (.ptr 0 0))), (10, .y (.one (sv NI b nil capd l))), (11, xi (l.length : Int)), (12, xi i), (13, xb false)] [.obj [vb p0, vb p1, vb p2]]
        (cast (And.intro (ob_raw (P := pg) (A := an) (vals := [xi i, xi (l.length : Int)]) (H := [.obj [vb p0, vb p1, vb p2]]) (op := .binOp .lss 3 (.tmp 0) (.tmp 1) 3) (ty := 0) (r := xb (decide ((i : Int) < (l.length : Int)))) (v := xb false) (by kernel_rfl) (congrArg (fun z => xb z) (decide_eq_false (by omega)))) trivial) (by kernel_rfl)) (by kernel_rfl) ?_
      refine Wp.seq ?_
      refine Wp.condF (by kernel_rfl) ?_
      refine Wp.exit ?_
      refine Eq.mpr (if_pos rfl) ?_
      refine Wp.seq ?_
      refine Wp.regionSeq [] [(3, .y (.one (.ptr 0 0))), (22, xi 0)] [.obj [vb p0, vb p1, vb p2]]
        (cast trivial (by kernel_rfl)) (by kernel_rfl) ?_
      refine Wp.block ?_
      refine Wp.loopU [(3, .y (.one (.ptr 0 0))), (22, xi 0)] (some ([3, 22], true)) 1 (by kernel_rfl) ?_
      refine WpL.step ?_
      refine Wp.regionSeq [] [(3, .y (.one (.ptr 0 0))), (22, xi 0), (23, xb true)] [.obj [vb p0, vb p1, vb p2]]
        (cast trivial (by kernel_rfl)) (by kernel_rfl) ?_
      refine Wp.seq ?_
      refine Wp.condT (by kernel_rfl) ?_
      refine Wp.skip ?_
      refine Wp.seq ?_
      refine Wp.block ?_
      refine Wp.regionSeq [] [(3, .y (.one (.ptr 0 0))), (6, xi 0), (22, xi 0)] [.obj [vb p0, vb p1, vb p2]]
        (cast trivial (by kernel_rfl)) (by kernel_rfl) ?_
      rcases Bool.eq_false_or_eq_true (p0) with c6 | c6
      ·
        refine Wp.regionSeq [(2, xb true, [.obj [vb p0, vb p1, vb p2]])] [(3, .y (.one (.ptr 0 0))), (22, xi 0), (28, xb false)] [.obj [vb p0, vb p1, vb p2]]
          (cast (And.intro (ob_raw (P := pg) (A := an) (vals := [.y (.one (.ptr 0 0))]) (H := [.obj [vb p0, vb p1, vb p2]]) (op := .load 4 (.tmp 0)) (ty := 0) (r := xb p0) (v := xb true) (by kernel_rfl) (congrArg (fun z => xb z) (c6))) trivial) (by kernel_rfl)) (by kernel_rfl) ?_
        refine Wp.condF (by kernel_rfl) ?_
        refine Wp.skip ?_
        refine Wp.region [] [(3, .y (.one (.ptr 0 0))), (22, xi 1)] [.obj [vb p0, vb p1, vb p2]]
          (cast trivial (by kernel_rfl)) (by kernel_rfl) ?_
        refine ⟨[(3, .y (.one (.ptr 0 0))), (22, xi 1)], [.obj [vb p0, vb p1, vb p2]], by kernel_rfl, ?_⟩
        refine WpL.step ?_
        refine Wp.regionSeq [] [(3, .y (.one (.ptr 0 0))), (22, xi 1), (23, xb true)] [.obj [vb p0, vb p1, vb p2]]
          (cast trivial (by kernel_rfl)) (by kernel_rfl) ?_
        refine Wp.seq ?_
        refine Wp.condT (by kernel_rfl) ?_
        refine Wp.skip ?_
        refine Wp.seq ?_
        refine Wp.block ?_
        refine Wp.regionSeq [] [(3, .y (.one (.ptr 0 0))), (6, xi 1), (22, xi 1)] [.obj [vb p0, vb p1, vb p2]]
          (cast trivial (by kernel_rfl)) (by kernel_rfl) ?_
        rcases Bool.eq_false_or_eq_true (p1) with c7 | c7
        ·
          refine Wp.regionSeq [(2, xb true, [.obj [vb p0, vb p1, vb p2]])] [(3, .y (.one (.ptr 0 0))), (22, xi 1), (28, xb false)] [.obj [vb p0, vb p1, vb p2]]
            (cast (And.intro (ob_raw (P := pg) (A := an) (vals := [.y (.one (.ptr 0 1))]) (H := [.obj [vb p0, vb p1, vb p2]]) (op := .load 4 (.tmp 0)) (ty := 0) (r := xb p1) (v := xb true) (by kernel_rfl) (congrArg (fun z => xb z) (c7))) trivial) (by kernel_rfl)) (by kernel_rfl) ?_
          refine Wp.condF (by kernel_rfl) ?_
          refine Wp.skip ?_
          refine Wp.region [] [(3, .y (.one (.ptr 0 0))), (22, xi 2)] [.obj [vb p0, vb p1, vb p2]]
            (cast trivial (by kernel_rfl)) (by kernel_rfl) ?_
          refine ⟨[(3, .y (.one (.ptr 0 0))), (22, xi 2)], [.obj [vb p0, vb p1, vb p2]], by kernel_rfl, ?_⟩
          refine WpL.step ?_
          refine Wp.regionSeq [] [(3, .y (.one (.ptr 0 0))), (22, xi 2), (23, xb true)] [.obj [vb p0, vb p1, vb p2]]
            (cast trivial (by kernel_rfl)) (by kernel_rfl) ?_
          refine Wp.seq ?_
          refine Wp.condT (by kernel_rfl) ?_
          refine Wp.skip ?_
          refine Wp.seq ?_
          refine Wp.block ?_
          refine Wp.regionSeq [] [(3, .y (.one (.ptr 0 0))), (6, xi 2), (22, xi 2)] [.obj [vb p0, vb p1, vb p2]]
            (cast trivial (by kernel_rfl)) (by kernel_rfl) ?_
          rcases Bool.eq_false_or_eq_true (p2) with c8 | c8
          ·
            refine Wp.regionSeq [(2, xb true, [.obj [vb p0, vb p1, vb p2]])] [(3, .y (.one (.ptr 0 0))), (22, xi 2), (28, xb false)] [.obj [vb p0, vb p1, vb p2]]
              (cast (And.intro (ob_raw (P := pg) (A := an) (vals := [.y (.one (.ptr 0 2))]) (H := [.obj [vb p0, vb p1, vb p2]]) (op := .load 4 (.tmp 0)) (ty := 0) (r := xb p2) (v := xb true) (by kernel_rfl) (congrArg (fun z => xb z) (c8))) trivial) (by kernel_rfl)) (by kernel_rfl) ?_
            refine Wp.condF (by kernel_rfl) ?_
            refine Wp.skip ?_
            refine Wp.region [] [(3, .y (.one (.ptr 0 0))), (22, xi 3)] [.obj [vb p0, vb p1, vb p2]]
              (cast trivial (by kernel_rfl)) (by kernel_rfl) ?_
            refine ⟨[(3, .y (.one (.ptr 0 0))), (22, xi 3)], [.obj [vb p0, vb p1, vb p2]], by kernel_rfl, ?_⟩
            refine WpL.step ?_
            refine Wp.regionSeq [] [(3, .y (.one (.ptr 0 0))), (22, xi 3), (23, xb false)] [.obj [vb p0, vb p1, vb p2]]
              (cast trivial (by kernel_rfl)) (by kernel_rfl) ?_
            refine Wp.seq ?_
            refine Wp.condF (by kernel_rfl) ?_
            refine Wp.exit ?_
            refine Eq.mpr (if_pos rfl) ?_
            refine Wp.regionSeq [] [(2, xi 0)] [.obj [vb p0, vb p1, vb p2]]
              (cast trivial (by kernel_rfl)) (by kernel_rfl) ?_
            refine Wp.ret ?_
            exact ⟨Or.inr rfl, [.one (vi 0)], by kernel_rfl, (congrArg (fun z => some [Y.one (vi z)]) (show (0 : Int) = (if okW l then 0 else 20) from by rw [show i.toNat = l.length by omega, List.take_length] at h3 h4 h5 h6; rw [ok_of (by omega) h3 h4 h5 h6]; simp [c6, c7, c8]))⟩
          ·
            refine Wp.regionSeq [(2, xb false, [.obj [vb p0, vb p1, vb p2]])] [(3, .y (.one (.ptr 0 0))), (22, xi 2), (28, xb true)] [.obj [vb p0, vb p1, vb p2]]
              (cast (And.intro (ob_raw (P := pg) (A := an) (vals := [.y (.one (.ptr 0 2))]) (H := [.obj [vb p0, vb p1, vb p2]]) (op := .load 4 (.tmp 0)) (ty := 0) (r := xb p2) (v := xb false) (by kernel_rfl) (congrArg (fun z => xb z) (c8))) trivial) (by kernel_rfl)) (by kernel_rfl) ?_
            refine Wp.condT (by kernel_rfl) ?_
            refine Wp.regionSeq [] [(2, xi 20)] [.obj [vb p0, vb p1, vb p2]]
              (cast trivial (by kernel_rfl)) (by kernel_rfl) ?_
            refine Wp.ret ?_
            exact ⟨Or.inr rfl, [.one (vi 20)], by kernel_rfl, (congrArg (fun z => some [Y.one (vi z)]) (show (20 : Int) = (if okW l then 0 else 20) from by rw [show i.toNat = l.length by omega, List.take_length] at h3 h4 h5 h6; rw [ok_of (by omega) h3 h4 h5 h6]; simp [c6, c7, c8]))⟩
        ·
          refine Wp.regionSeq [(2, xb false, [.obj [vb p0, vb p1, vb p2]])] [(3, .y (.one (.ptr 0 0))), (22, xi 1), (28, xb true)] [.obj [vb p0, vb p1, vb p2]]
            (cast (And.intro (ob_raw (P := pg) (A := an) (vals := [.y (.one (.ptr 0 1))]) (H := [.obj [vb p0, vb p1, vb p2]]) (op := .load 4 (.tmp 0)) (ty := 0) (r := xb p1) (v := xb false) (by kernel_rfl) (congrArg (fun z => xb z) (c7))) trivial) (by kernel_rfl)) (by kernel_rfl) ?_
          refine Wp.condT (by kernel_rfl) ?_
          refine Wp.regionSeq [] [(2, xi 20)] [.obj [vb p0, vb p1, vb p2]]
            (cast trivial (by kernel_rfl)) (by kernel_rfl) ?_
          refine Wp.ret ?_
          exact ⟨Or.inr rfl, [.one (vi 20)], by kernel_rfl, (congrArg (fun z => some [Y.one (vi z)]) (show (20 : Int) = (if okW l then 0 else 20) from by rw [show i.toNat = l.length by omega, List.take_length] at h3 h4 h5 h6; rw [ok_of (by omega) h3 h4 h5 h6]; simp [c6, c7]))⟩
      ·
        refine Wp.regionSeq [(2, xb false, [.obj [vb p0, vb p1, vb p2]])] [(3, .y (.one (.ptr 0 0))), (22, xi 0), (28, xb true)] [.obj [vb p0, vb p1, vb p2]]
          (cast (And.intro (ob_raw (P := pg) (A := an) (vals := [.y (.one (.ptr 0 0))]) (H := [.obj [vb p0, vb p1, vb p2]]) (op := .load 4 (.tmp 0)) (ty := 0) (r := xb p0) (v := xb false) (by kernel_rfl) (congrArg (fun z => xb z) (c6))) trivial) (by kernel_rfl)) (by kernel_rfl) ?_
        refine Wp.condT (by kernel_rfl) ?_
        refine Wp.regionSeq [] [(2, xi 20)] [.obj [vb p0, vb p1, vb p2]]
          (cast trivial (by kernel_rfl)) (by kernel_rfl) ?_
        refine Wp.ret ?_
        exact ⟨Or.inr rfl, [.one (vi 20)], by kernel_rfl, (congrArg (fun z => some [Y.one (vi z)]) (show (20 : Int) = (if okW l then 0 else 20) from by rw [show i.toNat = l.length by omega, List.take_length] at h3 h4 h5 h6; rw [ok_of (by omega) h3 h4 h5 h6]; simp [c6]))⟩
theorem fn14 (b nil capd : Bool) (l : List Int) (hl : (l.length : Int) ≤ 4611686018427387904) : PureC pg an 14 [.one (sv NI b nil capd l)] [.one (vi (if okW l then 0 else 20))] := by
  refine Runs.of (fn := Try.f14) Try.func14 rfl (by kernel_rfl) [(0, .y (.one (sv NI b nil capd l)))] (by kernel_rfl) ?_
  refine Wp.regionSeq [] [(0, .y (.one (sv NI b nil capd l)))] []
    (cast trivial (by kernel_rfl)) (by kernel_rfl) ?_
  refine Wp.seq ?_
  by_cases c1 : (64 : Int) < (l.length : Int)
  ·
    refine Wp.regionSeq [(2, xb true, [])] [(0, .y (.one (sv NI b nil capd l))), (8, xb true)] []
      (cast (And.intro (ob_raw (P := pg) (A := an) (vals := [xi (l.length : Int), xi 64]) (H := []) (op := .binOp .gtr 3 (.tmp 0) (.tmp 1) 3) (ty := 0) (r := xb (decide (((l.length : Int) : Int) > 64))) (v := xb true) (by kernel_rfl) (congrArg (fun z => xb z) (decide_eq_true (by omega)))) trivial) (by kernel_rfl)) (by kernel_rfl) ?_
    refine Wp.condT (by kernel_rfl) ?_
    refine Wp.regionSeq [] [(2, xi 20)] []
      (cast trivial (by kernel_rfl)) (by kernel_rfl) ?_
    refine Wp.ret ?_
    exact ⟨Or.inr rfl, [.one (vi 20)], by kernel_rfl, (congrArg (fun z => some [Y.one (vi z)]) (show (20 : Int) = (if okW l then 0 else 20) from by rw [show okW l = false from by unfold okW; rw [decide_eq_false (by omega)]; rfl]; rfl))⟩
  ·
    refine Wp.regionSeq [(2, xb false, [])] [(0, .y (.one (sv NI b nil capd l))), (8, xb false)] []
      (cast (And.intro (ob_raw (P := pg) (A := an) (vals := [xi (l.length : Int), xi 64]) (H := []) (op := .binOp .gtr 3 (.tmp 0) (.tmp 1) 3) (ty := 0) (r := xb (decide (((l.length : Int) : Int) > 64))) (v := xb false) (by kernel_rfl) (congrArg (fun z => xb z) (decide_eq_false (by omega)))) trivial) (by kernel_rfl)) (by kernel_rfl) ?_
    refine Wp.condF (by kernel_rfl) ?_
    refine Wp.skip ?_
    refine Wp.regionSeq [] [(0, .y (.one (sv NI b nil capd l))), (3, .y (.one (.ptr 0 0)))] [.obj [vb false, vb false, vb false]]
      (cast trivial (by kernel_rfl)) (by kernel_rfl) ?_
    refine Wp.seq ?_
    refine Wp.regionSeq [] [(0, .y (.one (sv NI b nil capd l))), (3, .y (.one (.ptr 0 0))), (4, xi 0)] [.obj [vb false, vb false, vb false]]
      (cast trivial (by kernel_rfl)) (by kernel_rfl) ?_
    refine Wp.block ?_
    refine Wp.loop (T := Int × Bool × Bool × Bool) (fun (t : Int × Bool × Bool × Bool) => match t with | (i, p0, p1, p2) => (((l.length : Int) - i).toNat : Nat)) (fun (t : Int × Bool × Bool × Bool) => match t with | (i, p0, p1, p2) => ([(0, .y (.one (sv NI b nil capd l))), (3, .y (.one (.ptr 0 0))), (4, xi i)] : Env)) (fun (t : Int × Bool × Bool × Bool) => match t with | (i, p0, p1, p2) => ([.obj [vb p0, vb p1, vb p2]] : Go.Lg.Heap))
      (fun (t : Int × Bool × Bool × Bool) => match t with | (i, p0, p1, p2) => (0 ≤ i ∧ i ≤ (l.length : Int) ∧ (l.take i.toNat).all inW = true ∧ p0 = (l.take i.toNat).contains 0 ∧ p1 = (l.take i.toNat).contains 1 ∧ p2 = (l.take i.toNat).contains 2 : Prop)) (0, false, false, false) (by kernel_rfl) (by exact ⟨by omega, by omega, by simp, by simp, by simp, by simp⟩) ?_
    rintro ⟨i, p0, p1, p2⟩ ⟨h1, h2, h3, h4, h5, h6⟩
    show Wp _ _ _ _ [(0, .y (.one (sv NI b nil capd l))), (3, .y (.one (.ptr 0 0))), (4, xi i)] [.obj [vb p0, vb p1, vb p2]] _
    refine Wp.seq ?_
    by_cases c2 : (i : Int) < (l.length : Int)
    ·
      refine Wp.regionSeq [(3, xb true, [.obj [vb p0, vb p1, vb p2]])] [(0, .y (.one (sv NI b nil capd l))), (3, .y (.one (.ptr 0 0))), (4, xi i), (12, xb true)] [.obj [vb p0, vb p1, vb p2]]
        (cast (And.intro (ob_raw (P := pg) (A := an) (vals := [xi i, xi (l.length : Int)]) (H := [.obj [vb p0, vb p1, vb p2]]) (op := .binOp .lss 3 (.tmp 0) (.tmp 1) 3) (ty := 0) (r := xb (decide ((i : Int) < (l.length : Int)))) (v := xb true) (by kernel_rfl) (congrArg (fun z => xb z) (decide_eq_true (by omega)))) trivial) (by kernel_rfl)) (by kernel_rfl) ?_
      refine Wp.condT (by kernel_rfl) ?_
      refine Wp.skip ?_
      refine Wp.seq ?_
      refine Wp.block ?_
      refine Wp.seq ?_
      obtain ⟨x3, hx3⟩ : ∃ x, l[(i : Int).toNat]? = some x := get_of (by omega)
      by_cases c4 : (x3 : Int) < 0
      ·
        refine Wp.regionSeq [(2, .y (.one (.rd ([vi x3] ++ (l.drop ((i : Int).toNat + 1)).flatMap (enc NI)))), [.obj [vb p0, vb p1, vb p2]]), (4, xb true, [.obj [vb p0, vb p1, vb p2]])] [(0, .y (.one (sv NI b nil capd l))), (3, .y (.one (.ptr 0 0))), (4, xi i), (26, xb true)] [.obj [vb p0, vb p1, vb p2]]
          (cast (And.intro (ob_index (P := pg) (A := an) (H := [.obj [vb p0, vb p1, vb p2]]) (s := NI) (b := b) (nil := nil) (capd := capd) (t := 22) (el := 3) (i := i) Try.underlying22 (by kernel_rfl) (by kernel_rfl) (by omega) hx3) (And.intro (ob_raw (P := pg) (A := an) (vals := [xi x3, xi 0]) (H := [.obj [vb p0, vb p1, vb p2]]) (op := .binOp .lss 3 (.tmp 0) (.tmp 1) 3) (ty := 0) (r := xb (decide ((x3 : Int) < 0))) (v := xb true) (by kernel_rfl) (congrArg (fun z => xb z) (decide_eq_true (by omega)))) trivial)) (by kernel_rfl)) (by kernel_rfl) ?_
        refine Wp.condT (by kernel_rfl) ?_
        refine Wp.regionSeq [] [(2, xi 20)] [.obj [vb p0, vb p1, vb p2]]
          (cast trivial (by kernel_rfl)) (by kernel_rfl) ?_
        refine Wp.ret ?_
        exact ⟨Or.inr rfl, [.one (vi 20)], by kernel_rfl, (congrArg (fun z => some [Y.one (vi z)]) (show (20 : Int) = (if okW l then 0 else 20) from by rw [not_ok hx3 (by unfold inW; simp; omega)]; rfl))⟩
      ·
        by_cases c5 : (3 : Int) ≤ x3
        ·
          refine Wp.regionSeq [(2, .y (.one (.rd ([vi x3] ++ (l.drop ((i : Int).toNat + 1)).flatMap (enc NI)))), [.obj [vb p0, vb p1, vb p2]]), (4, xb false, [.obj [vb p0, vb p1, vb p2]]), (8, .y (.one (.rd ([vi x3] ++ (l.drop ((i : Int).toNat + 1)).flatMap (enc NI)))), [.obj [vb p0, vb p1, vb p2]]), (10, xb true, [.obj [vb p0, vb p1, vb p2]])] [(0, .y (.one (sv NI b nil capd l))), (3, .y (.one (.ptr 0 0))), (4, xi i), (26, xb true)] [.obj [vb p0, vb p1, vb p2]]
            (cast (And.intro (ob_index (P := pg) (A := an) (H := [.obj [vb p0, vb p1, vb p2]]) (s := NI) (b := b) (nil := nil) (capd := capd) (t := 22) (el := 3) (i := i) Try.underlying22 (by kernel_rfl) (by kernel_rfl) (by omega) hx3) (And.intro (ob_raw (P := pg) (A := an) (vals := [xi x3, xi 0]) (H := [.obj [vb p0, vb p1, vb p2]]) (op := .binOp .lss 3 (.tmp 0) (.tmp 1) 3) (ty := 0) (r := xb (decide ((x3 : Int) < 0))) (v := xb false) (by kernel_rfl) (congrArg (fun z => xb z) (decide_eq_false (by omega)))) (And.intro (ob_index (P := pg) (A := an) (H := [.obj [vb p0, vb p1, vb p2]]) (s := NI) (b := b) (nil := nil) (capd := capd) (t := 22) (el := 3) (i := i) Try.underlying22 (by kernel_rfl) (by kernel_rfl) (by omega) hx3) (And.intro (ob_raw (P := pg) (A := an) (vals := [xi x3, xi 3]) (H := [.obj [vb p0, vb p1, vb p2]]) (op := .binOp .geq 3 (.tmp 0) (.tmp 1) 3) (ty := 0) (r := xb (decide ((x3 : Int) ≥ 3))) (v := xb true) (by kernel_rfl) (congrArg (fun z => xb z) (decide_eq_true (by omega)))) trivial)))) (by kernel_rfl)) (by kernel_rfl) ?_
          refine Wp.condT (by kernel_rfl) ?_
          refine Wp.regionSeq [] [(2, xi 20)] [.obj [vb p0, vb p1, vb p2]]
            (cast trivial (by kernel_rfl)) (by kernel_rfl) ?_
          refine Wp.ret ?_
          exact ⟨Or.inr rfl, [.one (vi 20)], by kernel_rfl, (congrArg (fun z => some [Y.one (vi z)]) (show (20 : Int) = (if okW l then 0 else 20) from by rw [not_ok hx3 (by unfold inW; simp; omega)]; rfl))⟩
        ·
          refine Wp.regionSeq [(2, .y (.one (.rd ([vi x3] ++ (l.drop ((i : Int).toNat + 1)).flatMap (enc NI)))), [.obj [vb p0, vb p1, vb p2]]), (4, xb false, [.obj [vb p0, vb p1, vb p2]]), (8, .y (.one (.rd ([vi x3] ++ (l.drop ((i : Int).toNat + 1)).flatMap (enc NI)))), [.obj [vb p0, vb p1, vb p2]]), (10, xb false, [.obj [vb p0, vb p1, vb p2]])] [(0, .y (.one (sv NI b nil capd l))), (3, .y (.one (.ptr 0 0))), (4, xi i), (26, xb false)] [.obj [vb p0, vb p1, vb p2]]
            (cast (And.intro (ob_index (P := pg) (A := an) (H := [.obj [vb p0, vb p1, vb p2]]) (s := NI) (b := b) (nil := nil) (capd := capd) (t := 22) (el := 3) (i := i) Try.underlying22 (by kernel_rfl) (by kernel_rfl) (by omega) hx3) (And.intro (ob_raw (P := pg) (A := an) (vals := [xi x3, xi 0]) (H := [.obj [vb p0, vb p1, vb p2]]) (op := .binOp .lss 3 (.tmp 0) (.tmp 1) 3) (ty := 0) (r := xb (decide ((x3 : Int) < 0))) (v := xb false) (by kernel_rfl) (congrArg (fun z => xb z) (decide_eq_false (by omega)))) (And.intro (ob_index (P := pg) (A := an) (H := [.obj [vb p0, vb p1, vb p2]]) (s := NI) (b := b) (nil := nil) (capd := capd) (t := 22) (el := 3) (i := i) Try.underlying22 (by kernel_rfl) (by kernel_rfl) (by omega) hx3) (And.intro (ob_raw (P := pg) (A := an) (vals := [xi x3, xi 3]) (H := [.obj [vb p0, vb p1, vb p2]]) (op := .binOp .geq 3 (.tmp 0) (.tmp 1) 3) (ty := 0) (r := xb (decide ((x3 : Int) ≥ 3))) (v := xb false) (by kernel_rfl) (congrArg (fun z => xb z) (decide_eq_false (by omega)))) trivial)))) (by kernel_rfl)) (by kernel_rfl) ?_
          refine Wp.condF (by kernel_rfl) ?_
          refine Wp.skip ?_
          rcases (show x3 = 0 ∨ x3 = 1 ∨ x3 = 2 from by omega) with rfl | rfl | rfl
          ·
            refine Wp.region [(2, .y (.one (.rd ([vi 0] ++ (l.drop ((i : Int).toNat + 1)).flatMap (enc NI)))), [.obj [vb p0, vb p1, vb p2]])] [(0, .y (.one (sv NI b nil capd l))), (3, .y (.one (.ptr 0 0))), (4, xi i)] [.obj [vb true, vb p1, vb p2]]
              (cast (And.intro (ob_index (P := pg) (A := an) (H := [.obj [vb p0, vb p1, vb p2]]) (s := NI) (b := b) (nil := nil) (capd := capd) (t := 22) (el := 3) (i := i) Try.underlying22 (by kernel_rfl) (by kernel_rfl) (by omega) hx3) trivial) (by kernel_rfl)) (by kernel_rfl) ?_
            refine Wp.region [(1, xi (i + 1), [.obj [vb true, vb p1, vb p2]])] [(0, .y (.one (sv NI b nil capd l))), (3, .y (.one (.ptr 0 0))), (4, xi (i + 1))] [.obj [vb true, vb p1, vb p2]]
              (cast (And.intro (ob_raw (P := pg) (A := an) (vals := [xi i, xi 1]) (H := [.obj [vb true, vb p1, vb p2]]) (op := .binOp .add 3 (.tmp 0) (.tmp 1) 3) (ty := 0) (r := xi (IntKind.wrap .i64 (i + 1))) (v := xi (i + 1)) (by kernel_rfl) (congrArg (fun z => xi z) ((wrap64 (by omega)).trans (by omega)))) trivial) (by kernel_rfl)) (by kernel_rfl) ?_
            exact ⟨((i + 1), true, p1, p2), by kernel_rfl, (by have hs := take_snoc (i := i) (by omega) hx3; exact ⟨by omega, by omega, by rw [hs, List.all_append, h3]; decide, by rw [hs]; exact has_snoc _ _, by rw [hs, ← all_snoc (h5) false (by decide)]; simp, by rw [hs, ← all_snoc (h6) false (by decide)]; simp⟩), (by show (_ : Nat) < _; simp only []; omega)⟩
          ·
            refine Wp.region [(2, .y (.one (.rd ([vi 1] ++ (l.drop ((i : Int).toNat + 1)).flatMap (enc NI)))), [.obj [vb p0, vb p1, vb p2]])] [(0, .y (.one (sv NI b nil capd l))), (3, .y (.one (.ptr 0 0))), (4, xi i)] [.obj [vb p0, vb true, vb p2]]
              (cast (And.intro (ob_index (P := pg) (A := an) (H := [.obj [vb p0, vb p1, vb p2]]) (s := NI) (b := b) (nil := nil) (capd := capd) (t := 22) (el := 3) (i := i) Try.underlying22 (by kernel_rfl) (by kernel_rfl) (by omega) hx3) trivial) (by kernel_rfl)) (by kernel_rfl) ?_
            refine Wp.region [(1, xi (i + 1), [.obj [vb p0, vb true, vb p2]])] [(0, .y (.one (sv NI b nil capd l))), (3, .y (.one (.ptr 0 0))), (4, xi (i + 1))] [.obj [vb p0, vb true, vb p2]]
              (cast (And.intro (ob_raw (P := pg) (A := an) (vals := [xi i, xi 1]) (H := [.obj [vb p0, vb true, vb p2]]) (op := .binOp .add 3 (.tmp 0) (.tmp 1) 3) (ty := 0) (r := xi (IntKind.wrap .i64 (i + 1))) (v := xi (i + 1)) (by kernel_rfl) (congrArg (fun z => xi z) ((wrap64 (by omega)).trans (by omega)))) trivial) (by kernel_rfl)) (by kernel_rfl) ?_
            exact ⟨((i + 1), p0, true, p2), by kernel_rfl, (by have hs := take_snoc (i := i) (by omega) hx3; exact ⟨by omega, by omega, by rw [hs, List.all_append, h3]; decide, by rw [hs, ← all_snoc (h4) false (by decide)]; simp, by rw [hs]; exact has_snoc _ _, by rw [hs, ← all_snoc (h6) false (by decide)]; simp⟩), (by show (_ : Nat) < _; simp only []; omega)⟩
          ·
            refine Wp.region [(2, .y (.one (.rd ([vi 2] ++ (l.drop ((i : Int).toNat + 1)).flatMap (enc NI)))), [.obj [vb p0, vb p1, vb p2]])] [(0, .y (.one (sv NI b nil capd l))), (3, .y (.one (.ptr 0 0))), (4, xi i)] [.obj [vb p0, vb p1, vb true]]
              (cast (And.intro (ob_index (P := pg) (A := an) (H := [.obj [vb p0, vb p1, vb p2]]) (s := NI) (b := b) (nil := nil) (capd := capd) (t := 22) (el := 3) (i := i) Try.underlying22 (by kernel_rfl) (by kernel_rfl) (by omega) hx3) trivial) (by kernel_rfl)) (by kernel_rfl) ?_
            refine Wp.region [(1, xi (i + 1), [.obj [vb p0, vb p1, vb true]])] [(0, .y (.one (sv NI b nil capd l))), (3, .y (.one (.ptr 0 0))), (4, xi (i + 1))] [.obj [vb p0, vb p1, vb true]]
              (cast (And.intro (ob_raw (P := pg) (A := an) (vals := [xi i, xi 1]) (H := [.obj [vb p0, vb p1, vb true]]) (op := .binOp .add 3 (.tmp 0) (.tmp 1) 3) (ty := 0) (r := xi (IntKind.wrap .i64 (i + 1))) (v := xi (i + 1)) (by kernel_rfl) (congrArg (fun z => xi z) ((wrap64 (by omega)).trans (by omega)))) trivial) (by kernel_rfl)) (by kernel_rfl) ?_
            exact ⟨((i + 1), p0, p1, true), by kernel_rfl, (by have hs := take_snoc (i := i) (by omega) hx3; exact ⟨by omega, by omega, by rw [hs, List.all_append, h3]; decide, by rw [hs, ← all_snoc (h4) false (by decide)]; simp, by rw [hs, ← all_snoc (h5) false (by decide)]; simp, by rw [hs]; exact has_snoc _ _⟩), (by show (_ : Nat) < _; simp only []; omega)⟩
    ·
      refine Wp.regionSeq [(3, xb false, [.obj [vb p0, vb p1, vb p2]])] [(0, .y (.one (sv NI b nil capd l))), (3, .y (.one (.ptr 0 0))), (4, xi i), (12, xb false)] [.obj [vb p0, vb p1, vb p2]]
        (cast (And.intro (ob_raw (P := pg) (A := an) (vals := [xi i, xi (l.length : Int)]) (H := [.obj [vb p0, vb p1, vb p2]]) (op := .binOp .lss 3 (.tmp 0) (.tmp 1) 3) (ty := 0) (r := xb (decide ((i : Int) < (l.length : Int)))) (v := xb false) (by kernel_rfl) (congrArg (fun z => xb z) (decide_eq_false (by omega)))) trivial) (by kernel_rfl)) (by kernel_rfl) ?_
      refine Wp.condF (by kernel_rfl) ?_
      refine Wp.exit ?_
      refine Eq.mpr (if_pos rfl) ?_
      refine Wp.seq ?_
      refine Wp.regionSeq [] [(3, .y (.one (.ptr 0 0))), (5, xi 0)] [.obj [vb p0, vb p1, vb p2]]
        (cast trivial (by kernel_rfl)) (by kernel_rfl) ?_
      refine Wp.block ?_
      refine Wp.loopU [(3, .y (.one (.ptr 0 0))), (5, xi 0)] (some ([3, 5], true)) 1 (by kernel_rfl) ?_
      refine WpL.step ?_
      refine Wp.seq ?_
      refine Wp.regionSeq [] [(3, .y (.one (.ptr 0 0))), (5, xi 0), (33, xb true)] [.obj [vb p0, vb p1, vb p2]]
        (cast trivial (by kernel_rfl)) (by kernel_rfl) ?_
      refine Wp.condT (by kernel_rfl) ?_
      refine Wp.skip ?_
      refine Wp.seq ?_
      refine Wp.block ?_
      rcases Bool.eq_false_or_eq_true (p0) with c6 | c6
      ·
        refine Wp.regionSeq [(2, xb true, [.obj [vb p0, vb p1, vb p2]])] [(3, .y (.one (.ptr 0 0))), (5, xi 0), (39, xb false)] [.obj [vb p0, vb p1, vb p2]]
          (cast (And.intro (ob_raw (P := pg) (A := an) (vals := [.y (.one (.ptr 0 0))]) (H := [.obj [vb p0, vb p1, vb p2]]) (op := .load 4 (.tmp 0)) (ty := 0) (r := xb p0) (v := xb true) (by kernel_rfl) (congrArg (fun z => xb z) (c6))) trivial) (by kernel_rfl)) (by kernel_rfl) ?_
        refine Wp.condF (by kernel_rfl) ?_
        refine Wp.skip ?_
        refine Wp.region [] [(3, .y (.one (.ptr 0 0))), (5, xi 1)] [.obj [vb p0, vb p1, vb p2]]
          (cast trivial (by kernel_rfl)) (by kernel_rfl) ?_
        refine ⟨[(3, .y (.one (.ptr 0 0))), (5, xi 1)], [.obj [vb p0, vb p1, vb p2]], by kernel_rfl, ?_⟩
        refine WpL.step ?_
        refine Wp.seq ?_
        refine Wp.regionSeq [] [(3, .y (.one (.ptr 0 0))), (5, xi 1), (33, xb true)] [.obj [vb p0, vb p1, vb p2]]
          (cast trivial (by kernel_rfl)) (by kernel_rfl) ?_
        refine Wp.condT (by kernel_rfl) ?_
        refine Wp.skip ?_
        refine Wp.seq ?_
        refine Wp.block ?_
        rcases Bool.eq_false_or_eq_true (p1) with c7 | c7
        ·
          refine Wp.regionSeq [(2, xb true, [.obj [vb p0, vb p1, vb p2]])] [(3, .y (.one (.ptr 0 0))), (5, xi 1), (39, xb false)] [.obj [vb p0, vb p1, vb p2]]
            (cast (And.intro (ob_raw (P := pg) (A := an) (vals := [.y (.one (.ptr 0 1))]) (H := [.obj [vb p0, vb p1, vb p2]]) (op := .load 4 (.tmp 0)) (ty := 0) (r := xb p1) (v := xb true) (by kernel_rfl) (congrArg (fun z => xb z) (c7))) trivial) (by kernel_rfl)) (by kernel_rfl) ?_
          refine Wp.condF (by kernel_rfl) ?_
          refine Wp.skip ?_
          refine Wp.region [] [(3, .y (.one (.ptr 0 0))), (5, xi 2)] [.obj [vb p0, vb p1, vb p2]]
            (cast trivial (by kernel_rfl)) (by kernel_rfl) ?_
          refine ⟨[(3, .y (.one (.ptr 0 0))), (5, xi 2)], [.obj [vb p0, vb p1, vb p2]], by kernel_rfl, ?_⟩
          refine WpL.step ?_
          refine Wp.seq ?_
          refine Wp.regionSeq [] [(3, .y (.one (.ptr 0 0))), (5, xi 2), (33, xb true)] [.obj [vb p0, vb p1, vb p2]]
            (cast trivial (by kernel_rfl)) (by kernel_rfl) ?_
          refine Wp.condT (by kernel_rfl) ?_
          refine Wp.skip ?_
          refine Wp.seq ?_
          refine Wp.block ?_
          rcases Bool.eq_false_or_eq_true (p2) with c8 | c8
          ·
            refine Wp.regionSeq [(2, xb true, [.obj [vb p0, vb p1, vb p2]])] [(3, .y (.one (.ptr 0 0))), (5, xi 2), (39, xb false)] [.obj [vb p0, vb p1, vb p2]]
              (cast (And.intro (ob_raw (P := pg) (A := an) (vals := [.y (.one (.ptr 0 2))]) (H := [.obj [vb p0, vb p1, vb p2]]) (op := .load 4 (.tmp 0)) (ty := 0) (r := xb p2) (v := xb true) (by kernel_rfl) (congrArg (fun z => xb z) (c8))) trivial) (by kernel_rfl)) (by kernel_rfl) ?_
            refine Wp.condF (by kernel_rfl) ?_
            refine Wp.skip ?_
            refine Wp.region [] [(3, .y (.one (.ptr 0 0))), (5, xi 3)] [.obj [vb p0, vb p1, vb p2]]
              (cast trivial (by kernel_rfl)) (by kernel_rfl) ?_
            refine ⟨[(3, .y (.one (.ptr 0 0))), (5, xi 3)], [.obj [vb p0, vb p1, vb p2]], by kernel_rfl, ?_⟩
            refine WpL.step ?_
            refine Wp.seq ?_
            refine Wp.regionSeq [] [(3, .y (.one (.ptr 0 0))), (5, xi 3), (33, xb false)] [.obj [vb p0, vb p1, vb p2]]
              (cast trivial (by kernel_rfl)) (by kernel_rfl) ?_
            refine Wp.condF (by kernel_rfl) ?_
            refine Wp.exit ?_
            refine Eq.mpr (if_pos rfl) ?_
            refine Wp.regionSeq [] [(2, xi 0)] [.obj [vb p0, vb p1, vb p2]]
              (cast trivial (by kernel_rfl)) (by kernel_rfl) ?_
            refine Wp.ret ?_
            exact ⟨Or.inr rfl, [.one (vi 0)], by kernel_rfl, (congrArg (fun z => some [Y.one (vi z)]) (show (0 : Int) = (if okW l then 0 else 20) from by rw [show i.toNat = l.length by omega, List.take_length] at h3 h4 h5 h6; rw [ok_of (by omega) h3 h4 h5 h6]; simp [c6, c7, c8]))⟩
          ·
            refine Wp.regionSeq [(2, xb false, [.obj [vb p0, vb p1, vb p2]])] [(3, .y (.one (.ptr 0 0))), (5, xi 2), (39, xb true)] [.obj [vb p0, vb p1, vb p2]]
              (cast (And.intro (ob_raw (P := pg) (A := an) (vals := [.y (.one (.ptr 0 2))]) (H := [.obj [vb p0, vb p1, vb p2]]) (op := .load 4 (.tmp 0)) (ty := 0) (r := xb p2) (v := xb false) (by kernel_rfl) (congrArg (fun z => xb z) (c8))) trivial) (by kernel_rfl)) (by kernel_rfl) ?_
            refine Wp.condT (by kernel_rfl) ?_
            refine Wp.regionSeq [] [(2, xi 20)] [.obj [vb p0, vb p1, vb p2]]
              (cast trivial (by kernel_rfl)) (by kernel_rfl) ?_
            refine Wp.ret ?_
            exact ⟨Or.inr rfl, [.one (vi 20)], by kernel_rfl, (congrArg (fun z => some [Y.one (vi z)]) (show (20 : Int) = (if okW l then 0 else 20) from by rw [show i.toNat = l.length by omega, List.take_length] at h3 h4 h5 h6; rw [ok_of (by omega) h3 h4 h5 h6]; simp [c6, c7, c8]))⟩
        ·
          refine Wp.regionSeq [(2, xb false, [.obj [vb p0, vb p1, vb p2]])] [(3, .y (.one (.ptr 0 0))), (5, xi 1), (39, xb true)] [.obj [vb p0, vb p1, vb p2]]
            (cast (And.intro (ob_raw (P := pg) (A := an) (vals := [.y (.one (.ptr 0 1))]) (H := [.obj [vb p0, vb p1, vb p2]]) (op := .load 4 (.tmp 0)) (ty := 0) (r := xb p1) (v := xb false) (by kernel_rfl) (congrArg (fun z => xb z) (c7))) trivial) (by kernel_rfl)) (by kernel_rfl) ?_
          refine Wp.condT (by kernel_rfl) ?_
          refine Wp.regionSeq [] [(2, xi 20)] [.obj [vb p0, vb p1, vb p2]]
            (cast trivial (by kernel_rfl)) (by kernel_rfl) ?_
          refine Wp.ret ?_
          exact ⟨Or.inr rfl, [.one (vi 20)], by kernel_rfl, (congrArg (fun z => some [Y.one (vi z)]) (show (20 : Int) = (if okW l then 0 else 20) from by rw [show i.toNat = l.length by omega, List.take_length] at h3 h4 h5 h6; rw [ok_of (by omega) h3 h4 h5 h6]; simp [c6, c7]))⟩
      ·
        refine Wp.regionSeq [(2, xb false, [.obj [vb p0, vb p1, vb p2]])] [(3, .y (.one (.ptr 0 0))), (5, xi 0), (39, xb true)] [.obj [vb p0, vb p1, vb p2]]
          (cast (And.intro (ob_raw (P := pg) (A := an) (vals := [.y (.one (.ptr 0 0))]) (H := [.obj [vb p0, vb p1, vb p2]]) (op := .load 4 (.tmp 0)) (ty := 0) (r := xb p0) (v := xb false) (by kernel_rfl) (congrArg (fun z => xb z) (c6))) trivial) (by kernel_rfl)) (by kernel_rfl) ?_
        refine Wp.condT (by kernel_rfl) ?_
        refine Wp.regionSeq [] [(2, xi 20)] [.obj [vb p0, vb p1, vb p2]]
          (cast trivial (by kernel_rfl)) (by kernel_rfl) ?_
        refine Wp.ret ?_
        exact ⟨Or.inr rfl, [.one (vi 20)], by kernel_rfl, (congrArg (fun z => some [Y.one (vi z)]) (show (20 : Int) = (if okW l then 0 else 20) from by rw [show i.toNat = l.length by omega, List.take_length] at h3 h4 h5 h6; rw [ok_of (by omega) h3 h4 h5 h6]; simp [c6]))⟩
end Go.Proofs.Ytoieblpjklbmoaa
