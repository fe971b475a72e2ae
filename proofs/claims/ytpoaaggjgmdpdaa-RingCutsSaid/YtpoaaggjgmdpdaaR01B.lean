/-
  Ring: the frame. (Printed by sx/r01.py.)
-/
import Derived.Test.YtpoaaggjgmdpdaaX24
import Derived.Test.YtpoaaggjgmdpdaaProg
import Derived.KernelRfl
namespace Go.Proofs.Ytpoaaggjgmdpdaa
open Go.Lg
set_option linter.unusedVariables false
set_option maxRecDepth 100000
set_option maxHeartbeats 8000000
set_option linter.unusedSimpArgs false
abbrev NI : Sh := .int .i64
def liveT : List (Nat × List (Nat × List Nat)) := [(3, [(0, [0, 1]), (1, [0, 1, 5, 6]), (2, [0, 1, 5, 6, 23]), (3, [6, 8]), (4, [4]), (5, [0, 1, 5, 9]), (6, [0, 1, 5, 9, 10]), (7, [0, 1, 5, 9, 10, 38]), (8, [0, 1, 5, 9, 10]), (9, [0, 1, 5, 9, 10, 11]), (10, [0, 1, 5, 9, 10, 11, 60]), (11, [4]), (12, [0, 1, 5, 9, 10, 62]), (13, [0, 1, 5, 9, 10]), (14, [0, 1, 5, 9, 12]), (15, [0, 1, 5, 9, 12, 67]), (16, [0, 1, 5, 9, 12]), (17, [0, 1, 5, 9, 12, 13, 14]), (18, [0, 1, 5, 9, 12, 84]), (19, [4]), (20, [0, 5, 16]), (21, [4])]),
  (5, [(0, [0, 1, 2]), (1, [0, 1, 2, 7, 8]), (2, [0, 1, 2, 7, 8, 19]), (3, [8, 10]), (4, [6]), (5, [0, 1, 2, 7, 34]), (6, [6]), (7, [1, 2, 7, 11, 12]), (8, [1, 2, 7, 11, 12, 54]), (9, [6]), (10, [1, 7, 11, 110]), (11, [6]), (12, [6])]),
  (8, [(0, [0]), (1, [0, 9]), (2, [2, 3]), (3, [2, 3])]),
  (9, [(0, [0, 2]), (1, [0, 2, 9]), (2, [2, 3]), (3, [2, 3])]),
  (10, [(0, []), (1, [1, 2]), (2, [1, 14]), (3, [0]), (4, [1]), (5, [1]), (6, [1]), (7, [1, 3, 4]), (8, [0])]),
  (11, [(0, [0, 1]), (1, [4])]),
  (12, [(0, [0]), (1, [2, 3])]),
  (13, [(0, [0]), (1, [0, 5]), (2, [2]), (3, [2])]),
  (14, [(0, [0]), (1, [0, 5]), (2, [2]), (3, [2])]),
  (17, [(0, [0, 1]), (1, [0, 1, 10]), (2, [4]), (3, [0, 1, 5]), (4, [0, 1, 5, 14]), (5, [0, 1, 5]), (6, [0, 1, 5, 25]), (7, [4]), (8, [4])]),
  (18, [(0, [0, 1, 4]), (1, [0, 1, 4, 9]), (2, [0, 1, 4]), (3, [0, 1, 4]), (4, [0, 1, 5]), (5, [0, 1, 5, 18]), (6, [0, 1, 5]), (7, [0, 1, 5])]),
  (19, [(0, [0, 1]), (1, [0, 1, 7]), (2, [4]), (3, [0, 1, 12]), (4, [4]), (5, []), (6, [4])]),
  (20, [(0, [0, 1]), (1, [0, 1, 14]), (2, [4, 5]), (3, [0, 6]), (4, [0, 6, 23]), (5, [4, 5]), (6, [0, 6, 7]), (7, [7]), (8, [4, 5])]),
  (21, [(0, [0]), (1, [0, 5]), (2, [2]), (3, [2])]),
  (22, [(0, [0, 4, 5, 6]), (1, [0, 4, 5, 6, 36]), (2, [0, 4, 5, 6, 36, 37]), (3, [0, 5, 6, 8, 9]), (4, [6, 7]), (5, [0, 4, 5, 6, 36, 53]), (6, [4, 6, 10, 11]), (7, [6, 10, 11, 12, 13, 14]), (8, [6, 7]), (9, [0, 4, 5, 6, 36, 75]), (10, [4, 5, 6, 15, 16]), (11, [4, 6, 15, 16, 17, 18]), (12, [6, 7]), (13, [0, 4, 5, 6, 36, 100]), (14, [4, 5, 6, 19, 20]), (15, [6, 19, 20, 21, 22, 23]), (16, [6, 7]), (17, [0, 4, 5, 6, 36, 126]), (18, [4, 5, 6, 24, 25]), (19, [5, 6, 24, 25, 26, 27, 28]), (20, [5, 6, 24, 26, 29]), (21, [6, 26, 29]), (22, [6, 7]), (23, [0, 4, 5, 6, 158]), (24, [0, 4, 5, 6, 30]), (25, [0, 4, 5, 6, 30]), (26, [4, 5, 6, 30, 31]), (27, [5, 6, 30, 31, 32, 33]), (28, [6, 30, 32, 34]), (29, [6, 32, 34]), (30, [6, 7]), (31, [6, 7])]),
  (23, [(0, [0, 3]), (1, [0, 3, 5]), (2, [0, 3, 5, 6]), (3, [0, 3, 6]), (4, [4])]),
  (24, [(0, [0]), (1, [0, 5]), (2, [2]), (3, [2])]),
  (25, [(0, [0, 1, 4]), (1, [0, 1, 4, 8]), (2, [4, 5]), (3, [0, 1, 4, 20]), (4, [4, 5]), (5, [4, 5])]),
  (26, [(0, [0, 1]), (1, [0, 1, 4, 5]), (2, [0, 1, 4, 5, 13]), (3, [4, 5]), (4, [4]), (5, [4, 5])]),
  (27, [(0, [0]), (1, [2])]),
  (28, [(0, [0]), (1, [0, 3]), (2, [0, 3]), (3, [2])]),
  (29, [(0, [1, 2, 4]), (1, [1, 2, 4, 8]), (2, [4, 5]), (3, [1, 2, 4, 15]), (4, [4, 5]), (5, [4, 5])]),
  (30, [(0, [1, 2]), (1, [2, 3, 4])]),
  (31, [(0, [1, 2]), (1, [1, 2, 8]), (2, [4, 5]), (3, [1, 2, 17]), (4, [4, 5]), (5, [4, 5])]),
  (32, [(0, [1, 2, 4]), (1, [1, 2, 4, 7, 8]), (2, [1, 2, 4, 7, 8, 16]), (3, [4, 5, 6]), (4, [4, 5, 6])]),
  (33, [(0, [1, 2, 4]), (1, [1, 2, 4, 14]), (2, [4, 5, 6]), (3, [1, 2, 4, 20]), (4, [4, 5, 6]), (5, [2, 4, 7]), (6, [4, 5, 6])]),
  (34, [(0, [1, 2, 4]), (1, [1, 2, 4, 8]), (2, [4, 5]), (3, [1, 2, 4, 18]), (4, [4, 5]), (5, [4, 5])]),
  (35, [(0, [0, 1]), (1, [0, 1, 6]), (2, [4]), (3, [4])]),
  (36, [(0, [0, 1]), (1, [0, 1, 5]), (2, [0, 1, 5, 6]), (3, [0, 1, 5, 6, 11]), (4, [0, 1, 5, 6]), (5, [0, 1, 5, 6]), (6, [1, 5, 7]), (7, [1, 5, 7, 24]), (8, [1, 5, 7]), (9, [1, 5, 7]), (10, [4])])]
def loopT : List (Nat × List (Nat × (List Nat × Bool))) := [(3, [(7, ([0, 1, 5, 9, 10], false)), (15, ([0, 1, 5, 9, 12], false))]),
  (17, [(4, ([0, 1, 5], true))]),
  (18, [(1, ([0, 1, 4], true)), (5, ([0, 1, 5], true))]),
  (36, [(3, ([0, 1, 5, 6], true)), (7, ([1, 5, 7], true))])]
def maskT : List (Nat × List (Nat × List (Nat × (Bool × List Nat)))) := [(5, [(10, [(21, (false, [1])), (24, (true, [1])), (27, (true, [1]))])]),
  (22, [(4, [(0, (true, [8])), (4, (false, [8]))])]),
  (23, [(2, [(6, (false, [3])), (8, (true, [3])), (9, (true, [])), (14, (false, [3])), (16, (true, [3])), (18, (true, [3])), (19, (true, []))]), (4, [(3, (false, [3])), (5, (true, [3]))])]),
  (24, [(3, [(3, (true, [0])), (8, (false, [0]))])]),
  (29, [(5, [(1, (true, [2])), (3, (true, [2])), (5, (false, [2]))])])]

def tab {α : Type} (T : List (Nat × List (Nat × α))) (f r : Nat) : Option α := (T.lookup f).bind (List.lookup r)
abbrev an : Ann := { pureSl := fun t => t != 58, pureFn := fun f => [9, 10, 16, 17, 29, 30, 31, 32, 33, 34, 36].contains f, live := tab liveT, loop := tab loopT, mask := fun f r i => (tab maskT f r).bind (List.lookup i), may := fun f => [3, 5, 8, 9, 10, 11, 12, 13, 14, 17, 18, 19, 20, 21, 22, 23, 24, 25, 26, 27, 28, 29, 30, 31, 32, 33, 34, 35, 36].contains f }
noncomputable abbrev pg : Program := Try.prog
theorem fn10 : PureC pg an 10 [] [.one (vb true)] := pure_of 300 (by kernel_rfl)
theorem take_snoc {l : List Int} {i : Int} {x : Int} (h : 0 ≤ i) (hx : l[i.toNat]? = some x) : l.take (i + 1).toNat = l.take i.toNat ++ [x] := by
  rw [show (i + 1).toNat = i.toNat + 1 by omega, List.take_add_one, hx]; rfl
theorem take_get {l ml : List Int} {n i x y : Int} {j : Nat} (h : ml = l.take n.toNat) (hx : ml[j]? = some x) (hy : l[i.toNat]? = some y) (hj : (j : Int) = i) (h0 : 0 ≤ i) : x = y := by
  subst h
  rw [List.getElem?_take] at hx
  split at hx
  · rw [show i.toNat = j by omega, hx] at hy
    exact Option.some.inj hy
  · cases hx

def newW (r : Int) : List Y := if r < 1 ∨ r > 65536 then [.agg [vi 0, .sl false true true [] 0], .one (vi 1)] else [.agg [vi r, .sl false true true [] 0], .one (vi 0)]
theorem fn9 (r : Int) : PureC pg an 9 [.one (vi r)] (newW r) := by
 refine Runs.of (fn := Try.f9) Try.func9 rfl (by kernel_rfl) [(0, xi r)] (by kernel_rfl) ?_
 refine Wp.regionSeq [] [(0, xi r), (2, .y (.one (.ptr 0 0)))] [.obj [vi 0, .sl false true true [] 0]]
   (cast trivial (by kernel_rfl)) (by kernel_rfl) ?_
 refine Wp.seq ?_
 by_cases c1 : (r : Int) < 1
 ·
  refine Wp.regionSeq [(1, xb true, [.obj [vi 0, .sl false true true [] 0]])] [(0, xi r), (2, .y (.one (.ptr 0 0))), (9, xb true)] [.obj [vi 0, .sl false true true [] 0]]
    (cast (And.intro (ob_raw (P := pg) (A := an) (vals := [xi r, xi 1]) (H := [.obj [vi 0, .sl false true true [] 0]]) (op := .binOp .lss 3 (.tmp 0) (.tmp 1) 3) (ty := 0) (r := xb (decide ((r : Int) < 1))) (v := xb true) (by kernel_rfl) (congrArg (fun z => xb z) (decide_eq_true (by omega)))) trivial) (by kernel_rfl)) (by kernel_rfl) ?_
  refine Wp.condT (by kernel_rfl) ?_
  refine Wp.regionSeq [] [(2, .y (.one (.ptr 0 0))), (3, xi 1)] [.obj [vi 0, .sl false true true [] 0]]
    (cast trivial (by kernel_rfl)) (by kernel_rfl) ?_
  refine Wp.ret ?_
  exact ⟨Or.inr rfl, [.agg [vi 0, .sl false true true [] 0], .one (vi 1)], by kernel_rfl, (by have hp : newW r = [.agg [vi 0, .sl false true true [] 0], .one (vi 1)] := by { rw [newW, if_pos (by omega)] }; rw [hp]; rfl)⟩
 ·
  by_cases c2 : (65536 : Int) < r
  ·
   refine Wp.regionSeq [(1, xb false, [.obj [vi 0, .sl false true true [] 0]]), (4, xb true, [.obj [vi 0, .sl false true true [] 0]])] [(0, xi r), (2, .y (.one (.ptr 0 0))), (9, xb true)] [.obj [vi 0, .sl false true true [] 0]]
     (cast (And.intro (ob_raw (P := pg) (A := an) (vals := [xi r, xi 1]) (H := [.obj [vi 0, .sl false true true [] 0]]) (op := .binOp .lss 3 (.tmp 0) (.tmp 1) 3) (ty := 0) (r := xb (decide ((r : Int) < 1))) (v := xb false) (by kernel_rfl) (congrArg (fun z => xb z) (decide_eq_false (by omega)))) (And.intro (ob_raw (P := pg) (A := an) (vals := [xi r, xi 65536]) (H := [.obj [vi 0, .sl false true true [] 0]]) (op := .binOp .gtr 3 (.tmp 0) (.tmp 1) 3) (ty := 0) (r := xb (decide ((r : Int) > 65536))) (v := xb true) (by kernel_rfl) (congrArg (fun z => xb z) (decide_eq_true (by omega)))) trivial)) (by kernel_rfl)) (by kernel_rfl) ?_
   refine Wp.condT (by kernel_rfl) ?_
   refine Wp.regionSeq [] [(2, .y (.one (.ptr 0 0))), (3, xi 1)] [.obj [vi 0, .sl false true true [] 0]]
     (cast trivial (by kernel_rfl)) (by kernel_rfl) ?_
   refine Wp.ret ?_
   exact ⟨Or.inr rfl, [.agg [vi 0, .sl false true true [] 0], .one (vi 1)], by kernel_rfl, (by have hp : newW r = [.agg [vi 0, .sl false true true [] 0], .one (vi 1)] := by { rw [newW, if_pos (by omega)] }; rw [hp]; rfl)⟩
  ·
   refine Wp.regionSeq [(1, xb false, [.obj [vi 0, .sl false true true [] 0]]), (4, xb false, [.obj [vi 0, .sl false true true [] 0]])] [(0, xi r), (2, .y (.one (.ptr 0 0))), (9, xb false)] [.obj [vi 0, .sl false true true [] 0]]
     (cast (And.intro (ob_raw (P := pg) (A := an) (vals := [xi r, xi 1]) (H := [.obj [vi 0, .sl false true true [] 0]]) (op := .binOp .lss 3 (.tmp 0) (.tmp 1) 3) (ty := 0) (r := xb (decide ((r : Int) < 1))) (v := xb false) (by kernel_rfl) (congrArg (fun z => xb z) (decide_eq_false (by omega)))) (And.intro (ob_raw (P := pg) (A := an) (vals := [xi r, xi 65536]) (H := [.obj [vi 0, .sl false true true [] 0]]) (op := .binOp .gtr 3 (.tmp 0) (.tmp 1) 3) (ty := 0) (r := xb (decide ((r : Int) > 65536))) (v := xb false) (by kernel_rfl) (congrArg (fun z => xb z) (decide_eq_false (by omega)))) trivial)) (by kernel_rfl)) (by kernel_rfl) ?_
   refine Wp.condF (by kernel_rfl) ?_
   refine Wp.skip ?_
   refine Wp.regionSeq [] [(2, .y (.one (.ptr 0 0))), (3, xi 0)] [.obj [vi r, .sl false true true [] 0]]
     (cast trivial (by kernel_rfl)) (by kernel_rfl) ?_
   refine Wp.ret ?_
   exact ⟨Or.inr rfl, [.agg [vi r, .sl false true true [] 0], .one (vi 0)], by kernel_rfl, (by have hp : newW r = [.agg [vi r, .sl false true true [] 0], .one (vi 0)] := by { rw [newW, if_neg (by omega)] }; rw [hp]; rfl)⟩
end Go.Proofs.Ytpoaaggjgmdpdaa
