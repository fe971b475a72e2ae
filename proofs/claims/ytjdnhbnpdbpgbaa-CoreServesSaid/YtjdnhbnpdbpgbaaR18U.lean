/-
  Core: who is pushed, who is dropped. (Printed by sx/r18.py.)
-/
import Derived.Test.YtjdnhbnpdbpgbaaR18G
namespace Go.Proofs.Ytjdnhbnpdbpgbaa
open Go.Lg
set_option linter.unusedVariables false
set_option maxRecDepth 100000
set_option maxHeartbeats 8000000
set_option linter.unusedSimpArgs false
theorem stands_all (R : HP) (H : Go.Lg.Heap) (c ks q0 q1 q2 : Nat) (S : List Int) (hand : Int) (l0 l1 l2 : List EN.T) (p : PN.T) (hs : On [R, pts c (.obj [rowC ks 0 S.length 0 S.length false, vi hand, .ptr q0 0, .ptr q1 0, .ptr q2 0]), pts ks (rowO NI true 0 S), ringP EN q0 64 l0, ringP EN q1 64 l1, ringP EN q2 64 l2] H) (hS : 3 ≤ (S.length : Int)) (hT : (S.length : Int) ≤ 64) (b0 : (l0.length : Int) ≤ 64) (b1 : (l1.length : Int) ≤ 64) (b2 : (l2.length : Int) ≤ 64) : ∃ rs H', Runs pg an 41 [.one (.ptr c 0), .agg [vi p.1, vi p.2.1]] H rs H' ∧ (((0 ≤ posI p l0 ∨ 0 ≤ posI p l1 ∨ 0 ≤ posI p l2) ∧ rs = [.one (vb true)] ∧ On [R, pts c (.obj [rowC ks 0 S.length 0 S.length false, vi hand, .ptr q0 0, .ptr q1 0, .ptr q2 0]), pts ks (rowO NI true 0 S), ringP EN q0 64 l0, ringP EN q1 64 l1, ringP EN q2 64 l2] H') ∨ (posI p l0 < 0 ∧ posI p l1 < 0 ∧ posI p l2 < 0 ∧ rs = [.one (vb false)] ∧ On [R, pts c (.obj [rowC ks 0 S.length 0 S.length false, vi hand, .ptr q0 0, .ptr q1 0, .ptr q2 0]), pts ks (rowO NI true 0 S), ringP EN q0 64 l0, ringP EN q1 64 l1, ringP EN q2 64 l2] H')) := by
 refine Runs.of (fn := Try.f41) Try.func41 rfl (by kernel_rfl) [(0, .y (.one (.ptr c 0))), (1, .y (.agg [vi p.1, vi p.2.1]))] (by kernel_rfl) ?_
 obtain ⟨n1, hn1⟩ : ∃ n, n = List.length (H : Go.Lg.Heap) := ⟨_, rfl⟩
 refine rSq [(0, .y (.one (.ptr n1 0)), (H ++ [.obj [vi p.1, vi p.2.1]]))] [(0, .y (.one (.ptr c 0))), (3, .y (.one (.ptr n1 0)))] (H ++ [.obj [vi p.1, vi p.2.1]])
   (cast (Jai (Jh (H := H) (t := 38) (ty := 0) (n := n1) (v := .agg [vi p.1, vi p.2.1]) (cs := [vi p.1, vi p.2.1]) hn1 (by kernel_rfl) (by kernel_rfl) (by kernel_rfl)) trivial) (by kernel_rfl)) (by kernel_rfl) ?_
 refine Wp.gen (cs := [R, pts c (.obj [rowC ks 0 S.length 0 S.length false, vi hand, .ptr q0 0, .ptr q1 0, .ptr q2 0]), pts ks (rowO NI true 0 S), ringP EN q0 64 l0, ringP EN q1 64 l1, ringP EN q2 64 l2, pts n1 (.obj [vi p.1, vi p.2.1])]) (On.new' hn1 (.obj [vi p.1, vi p.2.1]) hs) ?_
 intro H2 hs3
 have hz4 := posI_bd p l0
 have hz8 := posI_bd p l1
 have hz12 := posI_bd p l2
 by_cases c16 : (0 : Int) ≤ (posI p l0)
 ·
  obtain ⟨_, H20, hr21, rfl, hs22⟩ := find_0 _ (H2 : Go.Lg.Heap) (On.call [1, 2, 3, 4, 5] [0, 6] (by kernel_rfl) hs3) (c := c) (ks := ks) (q0 := q0) (q1 := q1) (q2 := q2) (S := S) (hand := hand) (l0 := l0) (l1 := l1) (l2 := l2) (p := p) (by omega) (by omega) (by first | rfl | omega | (simp; done) | (simp; omega)) (by first | rfl | omega | (simp; done) | (simp; omega)) (by first | rfl | omega | (simp; done) | (simp; omega)) (by omega)
  have hs22 : On [R, pts n1 (.obj [vi p.1, vi p.2.1]), pts c (.obj [rowC ks 0 S.length 0 S.length false, vi hand, .ptr q0 0, .ptr q1 0, .ptr q2 0]), pts ks (rowO NI true 0 S), ringP EN q0 64 l0, ringP EN q1 64 l1, ringP EN q2 64 l2] H20 := On.flat hs22
  refine rSq [(1, .y (.agg [vi p.1, vi p.2.1]), H2), (2, .tup [.one (vi 0), .one (vi (posI p l0)), .one (vi 0)], H20)] [(7, xi 0)] H20
    (cast (Jai (Jb (H := H2) (t := 38) (ty := 0) (id := n1) (off := 0) (n := 2) (cs := [vi p.1, vi p.2.1]) (cs' := [vi p.1, vi p.2.1]) (v := .agg [vi p.1, vi p.2.1]) (On.at hs3 6 rfl) (by kernel_rfl) (by kernel_rfl) (by kernel_rfl) (by kernel_rfl)) (Jai (Jc (H := H2) (g := 38) (vals := [.y (.one (.ptr c 0)), .y (.agg [vi p.1, vi p.2.1])]) (xs0 := [.one (.ptr c 0), .agg [vi p.1, vi p.2.1]]) (res := [.one (vi 0), .one (vi (posI p l0)), .one (vi 0)]) (ats := #[]) (ty := 0) (v := .tup [.one (vi 0), .one (vi (posI p l0)), .one (vi 0)]) (H' := H20) [.tmp 0, .tmp 1] (by kernel_rfl) (by kernel_rfl) hr21 (by kernel_rfl)) trivial)) (by kernel_rfl)) (by kernel_rfl) ?_
  refine Wp.gen (cs := [R, pts n1 (.obj [vi p.1, vi p.2.1]), pts c (.obj [rowC ks 0 S.length 0 S.length false, vi hand, .ptr q0 0, .ptr q1 0, .ptr q2 0]), pts ks (rowO NI true 0 S), ringP EN q0 64 l0, ringP EN q1 64 l1, ringP EN q2 64 l2]) hs22 ?_
  intro H23 hs24
  refine rSq [] [(4, xb true)] H23
    (cast trivial (by kernel_rfl)) (by kernel_rfl) ?_
  refine Wp.ret ?_
  refine ⟨Or.inr rfl, [.one (vb true)], (by kernel_rfl), ?_⟩
  exact .inl ⟨by omega, rfl, (On.pick [0, 2, 3, 4, 5, 6] [1] (by kernel_rfl) hs24)⟩
 ·
  by_cases c28 : (0 : Int) ≤ (posI p l1)
  ·
   obtain ⟨_, H32, hr33, rfl, hs34⟩ := find_1 _ (H2 : Go.Lg.Heap) (On.call [1, 2, 3, 4, 5] [0, 6] (by kernel_rfl) hs3) (c := c) (ks := ks) (q0 := q0) (q1 := q1) (q2 := q2) (S := S) (hand := hand) (l0 := l0) (l1 := l1) (l2 := l2) (p := p) (by omega) (by omega) (by first | rfl | omega | (simp; done) | (simp; omega)) (by first | rfl | omega | (simp; done) | (simp; omega)) (by first | rfl | omega | (simp; done) | (simp; omega)) (by omega) (by omega)
   have hs34 : On [R, pts n1 (.obj [vi p.1, vi p.2.1]), pts c (.obj [rowC ks 0 S.length 0 S.length false, vi hand, .ptr q0 0, .ptr q1 0, .ptr q2 0]), pts ks (rowO NI true 0 S), ringP EN q0 64 l0, ringP EN q1 64 l1, ringP EN q2 64 l2] H32 := On.flat hs34
   refine rSq [(1, .y (.agg [vi p.1, vi p.2.1]), H2), (2, .tup [.one (vi 1), .one (vi (posI p l1)), .one (vi 0)], H32)] [(7, xi 0)] H32
     (cast (Jai (Jb (H := H2) (t := 38) (ty := 0) (id := n1) (off := 0) (n := 2) (cs := [vi p.1, vi p.2.1]) (cs' := [vi p.1, vi p.2.1]) (v := .agg [vi p.1, vi p.2.1]) (On.at hs3 6 rfl) (by kernel_rfl) (by kernel_rfl) (by kernel_rfl) (by kernel_rfl)) (Jai (Jc (H := H2) (g := 38) (vals := [.y (.one (.ptr c 0)), .y (.agg [vi p.1, vi p.2.1])]) (xs0 := [.one (.ptr c 0), .agg [vi p.1, vi p.2.1]]) (res := [.one (vi 1), .one (vi (posI p l1)), .one (vi 0)]) (ats := #[]) (ty := 0) (v := .tup [.one (vi 1), .one (vi (posI p l1)), .one (vi 0)]) (H' := H32) [.tmp 0, .tmp 1] (by kernel_rfl) (by kernel_rfl) hr33 (by kernel_rfl)) trivial)) (by kernel_rfl)) (by kernel_rfl) ?_
   refine Wp.gen (cs := [R, pts n1 (.obj [vi p.1, vi p.2.1]), pts c (.obj [rowC ks 0 S.length 0 S.length false, vi hand, .ptr q0 0, .ptr q1 0, .ptr q2 0]), pts ks (rowO NI true 0 S), ringP EN q0 64 l0, ringP EN q1 64 l1, ringP EN q2 64 l2]) hs34 ?_
   intro H35 hs36
   refine rSq [] [(4, xb true)] H35
     (cast trivial (by kernel_rfl)) (by kernel_rfl) ?_
   refine Wp.ret ?_
   refine ⟨Or.inr rfl, [.one (vb true)], (by kernel_rfl), ?_⟩
   exact .inl ⟨by omega, rfl, (On.pick [0, 2, 3, 4, 5, 6] [1] (by kernel_rfl) hs36)⟩
  ·
   by_cases c40 : (0 : Int) ≤ (posI p l2)
   ·
    obtain ⟨_, H44, hr45, rfl, hs46⟩ := find_2 _ (H2 : Go.Lg.Heap) (On.call [1, 2, 3, 4, 5] [0, 6] (by kernel_rfl) hs3) (c := c) (ks := ks) (q0 := q0) (q1 := q1) (q2 := q2) (S := S) (hand := hand) (l0 := l0) (l1 := l1) (l2 := l2) (p := p) (by omega) (by omega) (by first | rfl | omega | (simp; done) | (simp; omega)) (by first | rfl | omega | (simp; done) | (simp; omega)) (by first | rfl | omega | (simp; done) | (simp; omega)) (by omega) (by omega) (by omega)
    have hs46 : On [R, pts n1 (.obj [vi p.1, vi p.2.1]), pts c (.obj [rowC ks 0 S.length 0 S.length false, vi hand, .ptr q0 0, .ptr q1 0, .ptr q2 0]), pts ks (rowO NI true 0 S), ringP EN q0 64 l0, ringP EN q1 64 l1, ringP EN q2 64 l2] H44 := On.flat hs46
    refine rSq [(1, .y (.agg [vi p.1, vi p.2.1]), H2), (2, .tup [.one (vi 2), .one (vi (posI p l2)), .one (vi 0)], H44)] [(7, xi 0)] H44
      (cast (Jai (Jb (H := H2) (t := 38) (ty := 0) (id := n1) (off := 0) (n := 2) (cs := [vi p.1, vi p.2.1]) (cs' := [vi p.1, vi p.2.1]) (v := .agg [vi p.1, vi p.2.1]) (On.at hs3 6 rfl) (by kernel_rfl) (by kernel_rfl) (by kernel_rfl) (by kernel_rfl)) (Jai (Jc (H := H2) (g := 38) (vals := [.y (.one (.ptr c 0)), .y (.agg [vi p.1, vi p.2.1])]) (xs0 := [.one (.ptr c 0), .agg [vi p.1, vi p.2.1]]) (res := [.one (vi 2), .one (vi (posI p l2)), .one (vi 0)]) (ats := #[]) (ty := 0) (v := .tup [.one (vi 2), .one (vi (posI p l2)), .one (vi 0)]) (H' := H44) [.tmp 0, .tmp 1] (by kernel_rfl) (by kernel_rfl) hr45 (by kernel_rfl)) trivial)) (by kernel_rfl)) (by kernel_rfl) ?_
    refine Wp.gen (cs := [R, pts n1 (.obj [vi p.1, vi p.2.1]), pts c (.obj [rowC ks 0 S.length 0 S.length false, vi hand, .ptr q0 0, .ptr q1 0, .ptr q2 0]), pts ks (rowO NI true 0 S), ringP EN q0 64 l0, ringP EN q1 64 l1, ringP EN q2 64 l2]) hs46 ?_
    intro H47 hs48
    refine rSq [] [(4, xb true)] H47
      (cast trivial (by kernel_rfl)) (by kernel_rfl) ?_
    refine Wp.ret ?_
    refine ⟨Or.inr rfl, [.one (vb true)], (by kernel_rfl), ?_⟩
    exact .inl ⟨by omega, rfl, (On.pick [0, 2, 3, 4, 5, 6] [1] (by kernel_rfl) hs48)⟩
   ·
    obtain ⟨_, H52, hr53, rfl, hs54⟩ := find_3 _ (H2 : Go.Lg.Heap) (On.call [1, 2, 3, 4, 5] [0, 6] (by kernel_rfl) hs3) (c := c) (ks := ks) (q0 := q0) (q1 := q1) (q2 := q2) (S := S) (hand := hand) (l0 := l0) (l1 := l1) (l2 := l2) (p := p) (by omega) (by omega) (by first | rfl | omega | (simp; done) | (simp; omega)) (by first | rfl | omega | (simp; done) | (simp; omega)) (by first | rfl | omega | (simp; done) | (simp; omega)) (by omega) (by omega) (by omega)
    have hs54 : On [R, pts n1 (.obj [vi p.1, vi p.2.1]), pts c (.obj [rowC ks 0 S.length 0 S.length false, vi hand, .ptr q0 0, .ptr q1 0, .ptr q2 0]), pts ks (rowO NI true 0 S), ringP EN q0 64 l0, ringP EN q1 64 l1, ringP EN q2 64 l2] H52 := On.flat hs54
    refine rSq [(1, .y (.agg [vi p.1, vi p.2.1]), H2), (2, .tup [.one (vi 0), .one (vi 0), .one (vi 3)], H52)] [(7, xi 3)] H52
      (cast (Jai (Jb (H := H2) (t := 38) (ty := 0) (id := n1) (off := 0) (n := 2) (cs := [vi p.1, vi p.2.1]) (cs' := [vi p.1, vi p.2.1]) (v := .agg [vi p.1, vi p.2.1]) (On.at hs3 6 rfl) (by kernel_rfl) (by kernel_rfl) (by kernel_rfl) (by kernel_rfl)) (Jai (Jc (H := H2) (g := 38) (vals := [.y (.one (.ptr c 0)), .y (.agg [vi p.1, vi p.2.1])]) (xs0 := [.one (.ptr c 0), .agg [vi p.1, vi p.2.1]]) (res := [.one (vi 0), .one (vi 0), .one (vi 3)]) (ats := #[]) (ty := 0) (v := .tup [.one (vi 0), .one (vi 0), .one (vi 3)]) (H' := H52) [.tmp 0, .tmp 1] (by kernel_rfl) (by kernel_rfl) hr53 (by kernel_rfl)) trivial)) (by kernel_rfl)) (by kernel_rfl) ?_
    refine Wp.gen (cs := [R, pts n1 (.obj [vi p.1, vi p.2.1]), pts c (.obj [rowC ks 0 S.length 0 S.length false, vi hand, .ptr q0 0, .ptr q1 0, .ptr q2 0]), pts ks (rowO NI true 0 S), ringP EN q0 64 l0, ringP EN q1 64 l1, ringP EN q2 64 l2]) hs54 ?_
    intro H55 hs56
    refine rSq [] [(4, xb false)] H55
      (cast trivial (by kernel_rfl)) (by kernel_rfl) ?_
    refine Wp.ret ?_
    refine ⟨Or.inr rfl, [.one (vb false)], (by kernel_rfl), ?_⟩
    exact .inr ⟨by omega, by omega, by omega, rfl, (On.pick [0, 2, 3, 4, 5, 6] [1] (by kernel_rfl) hs56)⟩
theorem push_all (R : HP) (H : Go.Lg.Heap) (c ks q0 q1 q2 : Nat) (S : List Int) (hand : Int) (l0 l1 l2 : List EN.T) (kk : Int) (p : PN.T) (hs : On [R, pts c (.obj [rowC ks 0 S.length 0 S.length false, vi hand, .ptr q0 0, .ptr q1 0, .ptr q2 0]), pts ks (rowO NI true 0 S), ringP EN q0 64 l0, ringP EN q1 64 l1, ringP EN q2 64 l2] H) (hS : 3 ≤ (S.length : Int)) (hT : (S.length : Int) ≤ 64) (b0 : (l0.length : Int) ≤ 64) (b1 : (l1.length : Int) ≤ 64) (b2 : (l2.length : Int) ≤ 64) : ∃ rs H', Runs pg an 17 [.one (.ptr c 0), .one (vi kk), .agg [vi p.1, vi p.2.1]] H rs H' ∧ (((kk < 0 ∨ 3 ≤ kk ∨ 0 ≤ posI p l0 ∨ 0 ≤ posI p l1 ∨ 0 ≤ posI p l2) ∧ rs = [.one (vi 1)] ∧ On [R, pts c (.obj [rowC ks 0 S.length 0 S.length false, vi hand, .ptr q0 0, .ptr q1 0, .ptr q2 0]), pts ks (rowO NI true 0 S), ringP EN q0 64 l0, ringP EN q1 64 l1, ringP EN q2 64 l2] H') ∨ (((kk = 0 ∧ 64 ≤ (l0.length : Int)) ∨ (kk = 1 ∧ 64 ≤ (l1.length : Int)) ∨ (kk = 2 ∧ 64 ≤ (l2.length : Int))) ∧ rs = [.one (vi 2)] ∧ On [R, pts c (.obj [rowC ks 0 S.length 0 S.length false, vi hand, .ptr q0 0, .ptr q1 0, .ptr q2 0]), pts ks (rowO NI true 0 S), ringP EN q0 64 l0, ringP EN q1 64 l1, ringP EN q2 64 l2] H') ∨ (kk = 0 ∧ posI p l0 < 0 ∧ posI p l1 < 0 ∧ posI p l2 < 0 ∧ (l0.length : Int) < 64 ∧ rs = [.one (vi 0)] ∧ On [R, pts c (.obj [rowC ks 0 S.length 0 S.length false, vi hand, .ptr q0 0, .ptr q1 0, .ptr q2 0]), pts ks (rowO NI true 0 S), ringP EN q0 64 (l0 ++ [(p, (false, ()))]), ringP EN q1 64 l1, ringP EN q2 64 l2] H') ∨ (kk = 1 ∧ posI p l0 < 0 ∧ posI p l1 < 0 ∧ posI p l2 < 0 ∧ (l1.length : Int) < 64 ∧ rs = [.one (vi 0)] ∧ On [R, pts c (.obj [rowC ks 0 S.length 0 S.length false, vi hand, .ptr q0 0, .ptr q1 0, .ptr q2 0]), pts ks (rowO NI true 0 S), ringP EN q0 64 l0, ringP EN q1 64 (l1 ++ [(p, (false, ()))]), ringP EN q2 64 l2] H') ∨ (kk = 2 ∧ posI p l0 < 0 ∧ posI p l1 < 0 ∧ posI p l2 < 0 ∧ (l2.length : Int) < 64 ∧ rs = [.one (vi 0)] ∧ On [R, pts c (.obj [rowC ks 0 S.length 0 S.length false, vi hand, .ptr q0 0, .ptr q1 0, .ptr q2 0]), pts ks (rowO NI true 0 S), ringP EN q0 64 l0, ringP EN q1 64 l1, ringP EN q2 64 (l2 ++ [(p, (false, ()))])] H')) := by
 refine Runs.of (fn := Try.f17) Try.func17 rfl (by kernel_rfl) [(0, .y (.one (.ptr c 0))), (1, xi kk), (2, .y (.agg [vi p.1, vi p.2.1]))] (by kernel_rfl) ?_
 obtain ⟨n1, hn1⟩ : ∃ n, n = List.length (H : Go.Lg.Heap) := ⟨_, rfl⟩
 refine rSq [(0, .y (.one (.ptr n1 0)), (H ++ [.obj [vi p.1, vi p.2.1]]))] [(0, .y (.one (.ptr c 0))), (1, xi kk), (5, .y (.one (.ptr n1 0)))] (H ++ [.obj [vi p.1, vi p.2.1]])
   (cast (Jai (Jh (H := H) (t := 38) (ty := 0) (n := n1) (v := .agg [vi p.1, vi p.2.1]) (cs := [vi p.1, vi p.2.1]) hn1 (by kernel_rfl) (by kernel_rfl) (by kernel_rfl)) trivial) (by kernel_rfl)) (by kernel_rfl) ?_
 refine Wp.gen (cs := [R, pts c (.obj [rowC ks 0 S.length 0 S.length false, vi hand, .ptr q0 0, .ptr q1 0, .ptr q2 0]), pts ks (rowO NI true 0 S), ringP EN q0 64 l0, ringP EN q1 64 l1, ringP EN q2 64 l2, pts n1 (.obj [vi p.1, vi p.2.1])]) (On.new' hn1 (.obj [vi p.1, vi p.2.1]) hs) ?_
 intro H2 hs3
 refine Wp.seq ?_
 by_cases c6 : (0 : Int) ≤ kk
 ·
  by_cases c9 : (kk : Int) < 3
  ·
   have hz12 := posI_bd p l0
   have hz16 := posI_bd p l1
   have hz21 := posI_bd p l2
   obtain ⟨_, H31, hr32, ⟨hz30, rfl, hs33⟩ | ⟨hz27, hz28, hz29, rfl, hs33⟩⟩ := stands_all _ (H2 : Go.Lg.Heap) (On.call [1, 2, 3, 4, 5] [0, 6] (by kernel_rfl) hs3) (c := c) (ks := ks) (q0 := q0) (q1 := q1) (q2 := q2) (S := S) (hand := hand) (l0 := l0) (l1 := l1) (l2 := l2) (p := p) (by omega) (by omega) (by first | rfl | omega | (simp; done) | (simp; omega)) (by first | rfl | omega | (simp; done) | (simp; omega)) (by first | rfl | omega | (simp; done) | (simp; omega))
   ·
    have hs34 : On [R, pts n1 (.obj [vi p.1, vi p.2.1]), pts c (.obj [rowC ks 0 S.length 0 S.length false, vi hand, .ptr q0 0, .ptr q1 0, .ptr q2 0]), pts ks (rowO NI true 0 S), ringP EN q0 64 l0, ringP EN q1 64 l1, ringP EN q2 64 l2] H31 := On.flat hs33
    have hcall35 : Runs pg an 31 [.one (.ptr c 0)] H2 [.one (vb true)] H2 := by
     refine runs_of ?_
     refine Runs.of (fn := Try.f31) Try.func31 rfl (by kernel_rfl) [(0, .y (.one (.ptr c 0)))] (by kernel_rfl) ?_
     refine rSq [] [(0, .y (.one (.ptr c 0)))] H2
       (cast trivial (by kernel_rfl)) (by kernel_rfl) ?_
     refine rSq [(6, .y (.one (rowC ks 0 S.length 0 S.length false)), H2), (7, xi (S.length : Int), H2), (8, xb true, H2)] [(2, xb true)] H2
       (cast (Jai (Jb (H := H2) (t := 22) (ty := 0) (id := c) (off := 0) (n := 1) (cs := [rowC ks 0 S.length 0 S.length false, vi hand, .ptr q0 0, .ptr q1 0, .ptr q2 0]) (cs' := [rowC ks 0 S.length 0 S.length false]) (v := .one (rowC ks 0 S.length 0 S.length false)) (On.at hs3 1 rfl) (by kernel_rfl) (by kernel_rfl) (by kernel_rfl) (by kernel_rfl)) (Jai (Jj (H := H2) (s := NI) (t := 22) (ty := 0) (pu := true) (capd := false) (id := ks) (d := 0) (o := 0) (n := S.length) (l := S) (e := (S.length : Int)) (On.at hs3 2 rfl) (by kernel_rfl) (by first | rfl | omega | (simp; done) | (simp; omega))) (Jai (Ja (vals := [xi (S.length : Int), xi 0]) (H := H2) (op := .binOp .gtr 3 (.tmp 0) (.tmp 1) 3) (ty := 0) (r := xb (decide (((S.length : Int) : Int) > 0))) (v := xb true) (by kernel_rfl) (congrArg (fun z => xb z) (decide_eq_true (by omega)))) trivial))) (by kernel_rfl)) (by kernel_rfl) ?_
     refine Wp.ret ?_
     exact ⟨Or.inr rfl, [.one (vb true)], (by kernel_rfl), ⟨rfl, rfl⟩⟩
    have hcall36 : Runs pg an 40 [.one (vi kk)] H2 [.one (vb true)] H2 := by
     refine runs_of ?_
     refine Runs.of (fn := Try.f40) Try.func40 rfl (by kernel_rfl) [(0, xi kk)] (by kernel_rfl) ?_
     refine rSq [] [(0, xi kk)] H2
       (cast trivial (by kernel_rfl)) (by kernel_rfl) ?_
     refine rSq [(1, xb true, H2), (4, xb true, H2)] [(2, xb true)] H2
       (cast (Jai (Ja (vals := [xi kk, xi 0]) (H := H2) (op := .binOp .geq 3 (.tmp 0) (.tmp 1) 3) (ty := 0) (r := xb (decide ((kk : Int) ≥ 0))) (v := xb true) (by kernel_rfl) (congrArg (fun z => xb z) (decide_eq_true (by omega)))) (Jai (Ja (vals := [xi kk, xi 3]) (H := H2) (op := .binOp .lss 3 (.tmp 0) (.tmp 1) 3) (ty := 0) (r := xb (decide ((kk : Int) < 3))) (v := xb true) (by kernel_rfl) (congrArg (fun z => xb z) (decide_eq_true (by omega)))) trivial)) (by kernel_rfl)) (by kernel_rfl) ?_
     refine Wp.ret ?_
     exact ⟨Or.inr rfl, [.one (vb true)], (by kernel_rfl), ⟨rfl, rfl⟩⟩
    refine rSq [(1, xb true, H2), (5, xb true, H2), (10, .y (.agg [vi p.1, vi p.2.1]), H2), (11, xb true, H31)] [(0, .y (.one (.ptr c 0))), (1, xi kk), (5, .y (.one (.ptr n1 0))), (19, xb true)] H31
      (cast (Jai (Jc (H := H2) (g := 31) (vals := [.y (.one (.ptr c 0))]) (xs0 := [.one (.ptr c 0)]) (res := [.one (vb true)]) (ats := #[]) (ty := 0) (v := xb true) (H' := H2) [.tmp 0] (by kernel_rfl) (by kernel_rfl) hcall35 (by kernel_rfl)) (Jai (Jc (H := H2) (g := 40) (vals := [xi kk]) (xs0 := [.one (vi kk)]) (res := [.one (vb true)]) (ats := #[]) (ty := 0) (v := xb true) (H' := H2) [.tmp 0] (by kernel_rfl) (by kernel_rfl) hcall36 (by kernel_rfl)) (Jai (Jb (H := H2) (t := 38) (ty := 0) (id := n1) (off := 0) (n := 2) (cs := [vi p.1, vi p.2.1]) (cs' := [vi p.1, vi p.2.1]) (v := .agg [vi p.1, vi p.2.1]) (On.at hs3 6 rfl) (by kernel_rfl) (by kernel_rfl) (by kernel_rfl) (by kernel_rfl)) (Jai (Jc (H := H2) (g := 41) (vals := [.y (.one (.ptr c 0)), .y (.agg [vi p.1, vi p.2.1])]) (xs0 := [.one (.ptr c 0), .agg [vi p.1, vi p.2.1]]) (res := [.one (vb true)]) (ats := #[]) (ty := 0) (v := xb true) (H' := H31) [.tmp 0, .tmp 1] (by kernel_rfl) (by kernel_rfl) hr32 (by kernel_rfl)) trivial)))) (by kernel_rfl)) (by kernel_rfl) ?_
    refine Wp.gen (cs := [R, pts n1 (.obj [vi p.1, vi p.2.1]), pts c (.obj [rowC ks 0 S.length 0 S.length false, vi hand, .ptr q0 0, .ptr q1 0, .ptr q2 0]), pts ks (rowO NI true 0 S), ringP EN q0 64 l0, ringP EN q1 64 l1, ringP EN q2 64 l2]) hs34 ?_
    intro H37 hs38
    refine Wp.condT (by kernel_rfl) ?_
    refine rSq [] [(6, xi 1)] H37
      (cast trivial (by kernel_rfl)) (by kernel_rfl) ?_
    refine Wp.ret ?_
    refine ⟨Or.inr rfl, [.one (vi 1)], (by kernel_rfl), ?_⟩
    exact .inl ⟨by omega, rfl, (On.pick [0, 2, 3, 4, 5, 6] [1] (by kernel_rfl) hs38)⟩
   ·
    have hs39 : On [R, pts n1 (.obj [vi p.1, vi p.2.1]), pts c (.obj [rowC ks 0 S.length 0 S.length false, vi hand, .ptr q0 0, .ptr q1 0, .ptr q2 0]), pts ks (rowO NI true 0 S), ringP EN q0 64 l0, ringP EN q1 64 l1, ringP EN q2 64 l2] H31 := On.flat hs33
    have hcall40 : Runs pg an 31 [.one (.ptr c 0)] H2 [.one (vb true)] H2 := by
     refine runs_of ?_
     refine Runs.of (fn := Try.f31) Try.func31 rfl (by kernel_rfl) [(0, .y (.one (.ptr c 0)))] (by kernel_rfl) ?_
     refine rSq [] [(0, .y (.one (.ptr c 0)))] H2
       (cast trivial (by kernel_rfl)) (by kernel_rfl) ?_
     refine rSq [(6, .y (.one (rowC ks 0 S.length 0 S.length false)), H2), (7, xi (S.length : Int), H2), (8, xb true, H2)] [(2, xb true)] H2
       (cast (Jai (Jb (H := H2) (t := 22) (ty := 0) (id := c) (off := 0) (n := 1) (cs := [rowC ks 0 S.length 0 S.length false, vi hand, .ptr q0 0, .ptr q1 0, .ptr q2 0]) (cs' := [rowC ks 0 S.length 0 S.length false]) (v := .one (rowC ks 0 S.length 0 S.length false)) (On.at hs3 1 rfl) (by kernel_rfl) (by kernel_rfl) (by kernel_rfl) (by kernel_rfl)) (Jai (Jj (H := H2) (s := NI) (t := 22) (ty := 0) (pu := true) (capd := false) (id := ks) (d := 0) (o := 0) (n := S.length) (l := S) (e := (S.length : Int)) (On.at hs3 2 rfl) (by kernel_rfl) (by first | rfl | omega | (simp; done) | (simp; omega))) (Jai (Ja (vals := [xi (S.length : Int), xi 0]) (H := H2) (op := .binOp .gtr 3 (.tmp 0) (.tmp 1) 3) (ty := 0) (r := xb (decide (((S.length : Int) : Int) > 0))) (v := xb true) (by kernel_rfl) (congrArg (fun z => xb z) (decide_eq_true (by omega)))) trivial))) (by kernel_rfl)) (by kernel_rfl) ?_
     refine Wp.ret ?_
     exact ⟨Or.inr rfl, [.one (vb true)], (by kernel_rfl), ⟨rfl, rfl⟩⟩
    have hcall41 : Runs pg an 40 [.one (vi kk)] H2 [.one (vb true)] H2 := by
     refine runs_of ?_
     refine Runs.of (fn := Try.f40) Try.func40 rfl (by kernel_rfl) [(0, xi kk)] (by kernel_rfl) ?_
     refine rSq [] [(0, xi kk)] H2
       (cast trivial (by kernel_rfl)) (by kernel_rfl) ?_
     refine rSq [(1, xb true, H2), (4, xb true, H2)] [(2, xb true)] H2
       (cast (Jai (Ja (vals := [xi kk, xi 0]) (H := H2) (op := .binOp .geq 3 (.tmp 0) (.tmp 1) 3) (ty := 0) (r := xb (decide ((kk : Int) ≥ 0))) (v := xb true) (by kernel_rfl) (congrArg (fun z => xb z) (decide_eq_true (by omega)))) (Jai (Ja (vals := [xi kk, xi 3]) (H := H2) (op := .binOp .lss 3 (.tmp 0) (.tmp 1) 3) (ty := 0) (r := xb (decide ((kk : Int) < 3))) (v := xb true) (by kernel_rfl) (congrArg (fun z => xb z) (decide_eq_true (by omega)))) trivial)) (by kernel_rfl)) (by kernel_rfl) ?_
     refine Wp.ret ?_
     exact ⟨Or.inr rfl, [.one (vb true)], (by kernel_rfl), ⟨rfl, rfl⟩⟩
    refine rSq [(1, xb true, H2), (5, xb true, H2), (10, .y (.agg [vi p.1, vi p.2.1]), H2), (11, xb false, H31)] [(0, .y (.one (.ptr c 0))), (1, xi kk), (5, .y (.one (.ptr n1 0))), (19, xb false)] H31
      (cast (Jai (Jc (H := H2) (g := 31) (vals := [.y (.one (.ptr c 0))]) (xs0 := [.one (.ptr c 0)]) (res := [.one (vb true)]) (ats := #[]) (ty := 0) (v := xb true) (H' := H2) [.tmp 0] (by kernel_rfl) (by kernel_rfl) hcall40 (by kernel_rfl)) (Jai (Jc (H := H2) (g := 40) (vals := [xi kk]) (xs0 := [.one (vi kk)]) (res := [.one (vb true)]) (ats := #[]) (ty := 0) (v := xb true) (H' := H2) [.tmp 0] (by kernel_rfl) (by kernel_rfl) hcall41 (by kernel_rfl)) (Jai (Jb (H := H2) (t := 38) (ty := 0) (id := n1) (off := 0) (n := 2) (cs := [vi p.1, vi p.2.1]) (cs' := [vi p.1, vi p.2.1]) (v := .agg [vi p.1, vi p.2.1]) (On.at hs3 6 rfl) (by kernel_rfl) (by kernel_rfl) (by kernel_rfl) (by kernel_rfl)) (Jai (Jc (H := H2) (g := 41) (vals := [.y (.one (.ptr c 0)), .y (.agg [vi p.1, vi p.2.1])]) (xs0 := [.one (.ptr c 0), .agg [vi p.1, vi p.2.1]]) (res := [.one (vb false)]) (ats := #[]) (ty := 0) (v := xb false) (H' := H31) [.tmp 0, .tmp 1] (by kernel_rfl) (by kernel_rfl) hr32 (by kernel_rfl)) trivial)))) (by kernel_rfl)) (by kernel_rfl) ?_
    refine Wp.gen (cs := [R, pts n1 (.obj [vi p.1, vi p.2.1]), pts c (.obj [rowC ks 0 S.length 0 S.length false, vi hand, .ptr q0 0, .ptr q1 0, .ptr q2 0]), pts ks (rowO NI true 0 S), ringP EN q0 64 l0, ringP EN q1 64 l1, ringP EN q2 64 l2]) hs39 ?_
    intro H42 hs43
    refine Wp.condF (by kernel_rfl) ?_
    refine Wp.skip ?_
    rcases (show kk = 0 ∨ kk = 1 ∨ kk = 2 from by omega) with rfl | rfl | rfl
    ·
     by_cases c44 : (64 : Int) ≤ (l0.length : Int)
     ·
      obtain ⟨_, H45, hr46, rfl, hs47⟩ := push_full _ (H42 : Go.Lg.Heap) (On.call [4] [0, 1, 2, 3, 5, 6] (by kernel_rfl) hs43) (q := q0) (room := 64) (l := l0) (x := (p, (false, ()))) (by first | rfl | omega | (simp; done) | (simp; omega))
      have hs47 : On [R, pts n1 (.obj [vi p.1, vi p.2.1]), pts c (.obj [rowC ks 0 S.length 0 S.length false, vi hand, .ptr q0 0, .ptr q1 0, .ptr q2 0]), pts ks (rowO NI true 0 S), ringP EN q1 64 l1, ringP EN q2 64 l2, ringP EN q0 64 l0] H45 := On.flat hs47
      refine rSq [(6, .y (.one (.ptr q0 0)), H42), (7, .y (.agg [vi p.1, vi p.2.1]), H42), (9, xi 2, H45)] [(6, xi 2)] H45
        (cast (Jai (Jb (H := H42) (t := 78) (ty := 0) (id := c) (off := 2) (n := 1) (cs := [rowC ks 0 S.length 0 S.length false, vi hand, .ptr q0 0, .ptr q1 0, .ptr q2 0]) (cs' := [.ptr q0 0]) (v := .one (.ptr q0 0)) (On.at hs43 2 rfl) (by kernel_rfl) (by kernel_rfl) (by kernel_rfl) (by kernel_rfl)) (Jai (Jb (H := H42) (t := 38) (ty := 0) (id := n1) (off := 0) (n := 2) (cs := [vi p.1, vi p.2.1]) (cs' := [vi p.1, vi p.2.1]) (v := .agg [vi p.1, vi p.2.1]) (On.at hs43 1 rfl) (by kernel_rfl) (by kernel_rfl) (by kernel_rfl) (by kernel_rfl)) (Jai (Jc (H := H42) (g := 42) (vals := [.y (.one (.ptr q0 0)), .y (.agg [vi p.1, vi p.2.1, vb false])]) (xs0 := [.one (.ptr q0 0), .agg [vi p.1, vi p.2.1, vb false]]) (res := [.one (vi 2)]) (ats := #[]) (ty := 0) (v := xi 2) (H' := H45) [.tmp 0, .tmp 1] (by kernel_rfl) (by kernel_rfl) hr46 (by kernel_rfl)) trivial))) (by kernel_rfl)) (by kernel_rfl) ?_
      refine Wp.gen (cs := [R, pts n1 (.obj [vi p.1, vi p.2.1]), pts c (.obj [rowC ks 0 S.length 0 S.length false, vi hand, .ptr q0 0, .ptr q1 0, .ptr q2 0]), pts ks (rowO NI true 0 S), ringP EN q1 64 l1, ringP EN q2 64 l2, ringP EN q0 64 l0]) hs47 ?_
      intro H48 hs49
      refine Wp.ret ?_
      refine ⟨Or.inr rfl, [.one (vi 2)], (by kernel_rfl), ?_⟩
      exact .inr (.inl ⟨by omega, rfl, (On.pick [0, 2, 3, 6, 4, 5] [1] (by kernel_rfl) hs49)⟩)
     ·
      have hlfz50 : ((l0 ++ [(p, (false, ()))]).length : Int) = ((l0.length : Int) + 1) := by { first | rfl | omega | (simp; done) | (simp; omega) }
      obtain ⟨_, H52, hr53, rfl, hs54⟩ := push_ok _ (H42 : Go.Lg.Heap) (On.call [4] [0, 1, 2, 3, 5, 6] (by kernel_rfl) hs43) (q := q0) (room := 64) (l := l0) (x := (p, (false, ()))) (by first | rfl | omega | (simp; done) | (simp; omega))
      have hs54 : On [R, pts n1 (.obj [vi p.1, vi p.2.1]), pts c (.obj [rowC ks 0 S.length 0 S.length false, vi hand, .ptr q0 0, .ptr q1 0, .ptr q2 0]), pts ks (rowO NI true 0 S), ringP EN q1 64 l1, ringP EN q2 64 l2, ringP EN q0 64 (l0 ++ [(p, (false, ()))])] H52 := On.flat hs54
      refine rSq [(6, .y (.one (.ptr q0 0)), H42), (7, .y (.agg [vi p.1, vi p.2.1]), H42), (9, xi 0, H52)] [(6, xi 0)] H52
        (cast (Jai (Jb (H := H42) (t := 78) (ty := 0) (id := c) (off := 2) (n := 1) (cs := [rowC ks 0 S.length 0 S.length false, vi hand, .ptr q0 0, .ptr q1 0, .ptr q2 0]) (cs' := [.ptr q0 0]) (v := .one (.ptr q0 0)) (On.at hs43 2 rfl) (by kernel_rfl) (by kernel_rfl) (by kernel_rfl) (by kernel_rfl)) (Jai (Jb (H := H42) (t := 38) (ty := 0) (id := n1) (off := 0) (n := 2) (cs := [vi p.1, vi p.2.1]) (cs' := [vi p.1, vi p.2.1]) (v := .agg [vi p.1, vi p.2.1]) (On.at hs43 1 rfl) (by kernel_rfl) (by kernel_rfl) (by kernel_rfl) (by kernel_rfl)) (Jai (Jc (H := H42) (g := 42) (vals := [.y (.one (.ptr q0 0)), .y (.agg [vi p.1, vi p.2.1, vb false])]) (xs0 := [.one (.ptr q0 0), .agg [vi p.1, vi p.2.1, vb false]]) (res := [.one (vi 0)]) (ats := #[]) (ty := 0) (v := xi 0) (H' := H52) [.tmp 0, .tmp 1] (by kernel_rfl) (by kernel_rfl) hr53 (by kernel_rfl)) trivial))) (by kernel_rfl)) (by kernel_rfl) ?_
      refine Wp.gen (cs := [R, pts n1 (.obj [vi p.1, vi p.2.1]), pts c (.obj [rowC ks 0 S.length 0 S.length false, vi hand, .ptr q0 0, .ptr q1 0, .ptr q2 0]), pts ks (rowO NI true 0 S), ringP EN q1 64 l1, ringP EN q2 64 l2, ringP EN q0 64 (l0 ++ [(p, (false, ()))])]) hs54 ?_
      intro H55 hs56
      refine Wp.ret ?_
      refine ⟨Or.inr rfl, [.one (vi 0)], (by kernel_rfl), ?_⟩
      exact .inr (.inr (.inl ⟨rfl, by omega, by omega, by omega, by omega, rfl, (On.pick [0, 2, 3, 6, 4, 5] [1] (by kernel_rfl) hs56)⟩))
    ·
     by_cases c57 : (64 : Int) ≤ (l1.length : Int)
     ·
      obtain ⟨_, H58, hr59, rfl, hs60⟩ := push_full _ (H42 : Go.Lg.Heap) (On.call [5] [0, 1, 2, 3, 4, 6] (by kernel_rfl) hs43) (q := q1) (room := 64) (l := l1) (x := (p, (false, ()))) (by first | rfl | omega | (simp; done) | (simp; omega))
      have hs60 : On [R, pts n1 (.obj [vi p.1, vi p.2.1]), pts c (.obj [rowC ks 0 S.length 0 S.length false, vi hand, .ptr q0 0, .ptr q1 0, .ptr q2 0]), pts ks (rowO NI true 0 S), ringP EN q0 64 l0, ringP EN q2 64 l2, ringP EN q1 64 l1] H58 := On.flat hs60
      refine rSq [(6, .y (.one (.ptr q1 0)), H42), (7, .y (.agg [vi p.1, vi p.2.1]), H42), (9, xi 2, H58)] [(6, xi 2)] H58
        (cast (Jai (Jb (H := H42) (t := 78) (ty := 0) (id := c) (off := 3) (n := 1) (cs := [rowC ks 0 S.length 0 S.length false, vi hand, .ptr q0 0, .ptr q1 0, .ptr q2 0]) (cs' := [.ptr q1 0]) (v := .one (.ptr q1 0)) (On.at hs43 2 rfl) (by kernel_rfl) (by kernel_rfl) (by kernel_rfl) (by kernel_rfl)) (Jai (Jb (H := H42) (t := 38) (ty := 0) (id := n1) (off := 0) (n := 2) (cs := [vi p.1, vi p.2.1]) (cs' := [vi p.1, vi p.2.1]) (v := .agg [vi p.1, vi p.2.1]) (On.at hs43 1 rfl) (by kernel_rfl) (by kernel_rfl) (by kernel_rfl) (by kernel_rfl)) (Jai (Jc (H := H42) (g := 42) (vals := [.y (.one (.ptr q1 0)), .y (.agg [vi p.1, vi p.2.1, vb false])]) (xs0 := [.one (.ptr q1 0), .agg [vi p.1, vi p.2.1, vb false]]) (res := [.one (vi 2)]) (ats := #[]) (ty := 0) (v := xi 2) (H' := H58) [.tmp 0, .tmp 1] (by kernel_rfl) (by kernel_rfl) hr59 (by kernel_rfl)) trivial))) (by kernel_rfl)) (by kernel_rfl) ?_
      refine Wp.gen (cs := [R, pts n1 (.obj [vi p.1, vi p.2.1]), pts c (.obj [rowC ks 0 S.length 0 S.length false, vi hand, .ptr q0 0, .ptr q1 0, .ptr q2 0]), pts ks (rowO NI true 0 S), ringP EN q0 64 l0, ringP EN q2 64 l2, ringP EN q1 64 l1]) hs60 ?_
      intro H61 hs62
      refine Wp.ret ?_
      refine ⟨Or.inr rfl, [.one (vi 2)], (by kernel_rfl), ?_⟩
      exact .inr (.inl ⟨by omega, rfl, (On.pick [0, 2, 3, 4, 6, 5] [1] (by kernel_rfl) hs62)⟩)
     ·
      have hlfz63 : ((l1 ++ [(p, (false, ()))]).length : Int) = ((l1.length : Int) + 1) := by { first | rfl | omega | (simp; done) | (simp; omega) }
      obtain ⟨_, H65, hr66, rfl, hs67⟩ := push_ok _ (H42 : Go.Lg.Heap) (On.call [5] [0, 1, 2, 3, 4, 6] (by kernel_rfl) hs43) (q := q1) (room := 64) (l := l1) (x := (p, (false, ()))) (by first | rfl | omega | (simp; done) | (simp; omega))
      have hs67 : On [R, pts n1 (.obj [vi p.1, vi p.2.1]), pts c (.obj [rowC ks 0 S.length 0 S.length false, vi hand, .ptr q0 0, .ptr q1 0, .ptr q2 0]), pts ks (rowO NI true 0 S), ringP EN q0 64 l0, ringP EN q2 64 l2, ringP EN q1 64 (l1 ++ [(p, (false, ()))])] H65 := On.flat hs67
      refine rSq [(6, .y (.one (.ptr q1 0)), H42), (7, .y (.agg [vi p.1, vi p.2.1]), H42), (9, xi 0, H65)] [(6, xi 0)] H65
        (cast (Jai (Jb (H := H42) (t := 78) (ty := 0) (id := c) (off := 3) (n := 1) (cs := [rowC ks 0 S.length 0 S.length false, vi hand, .ptr q0 0, .ptr q1 0, .ptr q2 0]) (cs' := [.ptr q1 0]) (v := .one (.ptr q1 0)) (On.at hs43 2 rfl) (by kernel_rfl) (by kernel_rfl) (by kernel_rfl) (by kernel_rfl)) (Jai (Jb (H := H42) (t := 38) (ty := 0) (id := n1) (off := 0) (n := 2) (cs := [vi p.1, vi p.2.1]) (cs' := [vi p.1, vi p.2.1]) (v := .agg [vi p.1, vi p.2.1]) (On.at hs43 1 rfl) (by kernel_rfl) (by kernel_rfl) (by kernel_rfl) (by kernel_rfl)) (Jai (Jc (H := H42) (g := 42) (vals := [.y (.one (.ptr q1 0)), .y (.agg [vi p.1, vi p.2.1, vb false])]) (xs0 := [.one (.ptr q1 0), .agg [vi p.1, vi p.2.1, vb false]]) (res := [.one (vi 0)]) (ats := #[]) (ty := 0) (v := xi 0) (H' := H65) [.tmp 0, .tmp 1] (by kernel_rfl) (by kernel_rfl) hr66 (by kernel_rfl)) trivial))) (by kernel_rfl)) (by kernel_rfl) ?_
      refine Wp.gen (cs := [R, pts n1 (.obj [vi p.1, vi p.2.1]), pts c (.obj [rowC ks 0 S.length 0 S.length false, vi hand, .ptr q0 0, .ptr q1 0, .ptr q2 0]), pts ks (rowO NI true 0 S), ringP EN q0 64 l0, ringP EN q2 64 l2, ringP EN q1 64 (l1 ++ [(p, (false, ()))])]) hs67 ?_
      intro H68 hs69
      refine Wp.ret ?_
      refine ⟨Or.inr rfl, [.one (vi 0)], (by kernel_rfl), ?_⟩
      exact .inr (.inr (.inr (.inl ⟨rfl, by omega, by omega, by omega, by omega, rfl, (On.pick [0, 2, 3, 4, 6, 5] [1] (by kernel_rfl) hs69)⟩)))
    ·
     by_cases c70 : (64 : Int) ≤ (l2.length : Int)
     ·
      obtain ⟨_, H71, hr72, rfl, hs73⟩ := push_full _ (H42 : Go.Lg.Heap) (On.call [6] [0, 1, 2, 3, 4, 5] (by kernel_rfl) hs43) (q := q2) (room := 64) (l := l2) (x := (p, (false, ()))) (by first | rfl | omega | (simp; done) | (simp; omega))
      have hs73 : On [R, pts n1 (.obj [vi p.1, vi p.2.1]), pts c (.obj [rowC ks 0 S.length 0 S.length false, vi hand, .ptr q0 0, .ptr q1 0, .ptr q2 0]), pts ks (rowO NI true 0 S), ringP EN q0 64 l0, ringP EN q1 64 l1, ringP EN q2 64 l2] H71 := On.flat hs73
      refine rSq [(6, .y (.one (.ptr q2 0)), H42), (7, .y (.agg [vi p.1, vi p.2.1]), H42), (9, xi 2, H71)] [(6, xi 2)] H71
        (cast (Jai (Jb (H := H42) (t := 78) (ty := 0) (id := c) (off := 4) (n := 1) (cs := [rowC ks 0 S.length 0 S.length false, vi hand, .ptr q0 0, .ptr q1 0, .ptr q2 0]) (cs' := [.ptr q2 0]) (v := .one (.ptr q2 0)) (On.at hs43 2 rfl) (by kernel_rfl) (by kernel_rfl) (by kernel_rfl) (by kernel_rfl)) (Jai (Jb (H := H42) (t := 38) (ty := 0) (id := n1) (off := 0) (n := 2) (cs := [vi p.1, vi p.2.1]) (cs' := [vi p.1, vi p.2.1]) (v := .agg [vi p.1, vi p.2.1]) (On.at hs43 1 rfl) (by kernel_rfl) (by kernel_rfl) (by kernel_rfl) (by kernel_rfl)) (Jai (Jc (H := H42) (g := 42) (vals := [.y (.one (.ptr q2 0)), .y (.agg [vi p.1, vi p.2.1, vb false])]) (xs0 := [.one (.ptr q2 0), .agg [vi p.1, vi p.2.1, vb false]]) (res := [.one (vi 2)]) (ats := #[]) (ty := 0) (v := xi 2) (H' := H71) [.tmp 0, .tmp 1] (by kernel_rfl) (by kernel_rfl) hr72 (by kernel_rfl)) trivial))) (by kernel_rfl)) (by kernel_rfl) ?_
      refine Wp.gen (cs := [R, pts n1 (.obj [vi p.1, vi p.2.1]), pts c (.obj [rowC ks 0 S.length 0 S.length false, vi hand, .ptr q0 0, .ptr q1 0, .ptr q2 0]), pts ks (rowO NI true 0 S), ringP EN q0 64 l0, ringP EN q1 64 l1, ringP EN q2 64 l2]) hs73 ?_
      intro H74 hs75
      refine Wp.ret ?_
      refine ⟨Or.inr rfl, [.one (vi 2)], (by kernel_rfl), ?_⟩
      exact .inr (.inl ⟨by omega, rfl, (On.pick [0, 2, 3, 4, 5, 6] [1] (by kernel_rfl) hs75)⟩)
     ·
      have hlfz76 : ((l2 ++ [(p, (false, ()))]).length : Int) = ((l2.length : Int) + 1) := by { first | rfl | omega | (simp; done) | (simp; omega) }
      obtain ⟨_, H78, hr79, rfl, hs80⟩ := push_ok _ (H42 : Go.Lg.Heap) (On.call [6] [0, 1, 2, 3, 4, 5] (by kernel_rfl) hs43) (q := q2) (room := 64) (l := l2) (x := (p, (false, ()))) (by first | rfl | omega | (simp; done) | (simp; omega))
      have hs80 : On [R, pts n1 (.obj [vi p.1, vi p.2.1]), pts c (.obj [rowC ks 0 S.length 0 S.length false, vi hand, .ptr q0 0, .ptr q1 0, .ptr q2 0]), pts ks (rowO NI true 0 S), ringP EN q0 64 l0, ringP EN q1 64 l1, ringP EN q2 64 (l2 ++ [(p, (false, ()))])] H78 := On.flat hs80
      refine rSq [(6, .y (.one (.ptr q2 0)), H42), (7, .y (.agg [vi p.1, vi p.2.1]), H42), (9, xi 0, H78)] [(6, xi 0)] H78
        (cast (Jai (Jb (H := H42) (t := 78) (ty := 0) (id := c) (off := 4) (n := 1) (cs := [rowC ks 0 S.length 0 S.length false, vi hand, .ptr q0 0, .ptr q1 0, .ptr q2 0]) (cs' := [.ptr q2 0]) (v := .one (.ptr q2 0)) (On.at hs43 2 rfl) (by kernel_rfl) (by kernel_rfl) (by kernel_rfl) (by kernel_rfl)) (Jai (Jb (H := H42) (t := 38) (ty := 0) (id := n1) (off := 0) (n := 2) (cs := [vi p.1, vi p.2.1]) (cs' := [vi p.1, vi p.2.1]) (v := .agg [vi p.1, vi p.2.1]) (On.at hs43 1 rfl) (by kernel_rfl) (by kernel_rfl) (by kernel_rfl) (by kernel_rfl)) (Jai (Jc (H := H42) (g := 42) (vals := [.y (.one (.ptr q2 0)), .y (.agg [vi p.1, vi p.2.1, vb false])]) (xs0 := [.one (.ptr q2 0), .agg [vi p.1, vi p.2.1, vb false]]) (res := [.one (vi 0)]) (ats := #[]) (ty := 0) (v := xi 0) (H' := H78) [.tmp 0, .tmp 1] (by kernel_rfl) (by kernel_rfl) hr79 (by kernel_rfl)) trivial))) (by kernel_rfl)) (by kernel_rfl) ?_
      refine Wp.gen (cs := [R, pts n1 (.obj [vi p.1, vi p.2.1]), pts c (.obj [rowC ks 0 S.length 0 S.length false, vi hand, .ptr q0 0, .ptr q1 0, .ptr q2 0]), pts ks (rowO NI true 0 S), ringP EN q0 64 l0, ringP EN q1 64 l1, ringP EN q2 64 (l2 ++ [(p, (false, ()))])]) hs80 ?_
      intro H81 hs82
      refine Wp.ret ?_
      refine ⟨Or.inr rfl, [.one (vi 0)], (by kernel_rfl), ?_⟩
      exact .inr (.inr (.inr (.inr (⟨rfl, by omega, by omega, by omega, by omega, rfl, (On.pick [0, 2, 3, 4, 5, 6] [1] (by kernel_rfl) hs82)⟩))))
  ·
   have hcall83 : Runs pg an 31 [.one (.ptr c 0)] H2 [.one (vb true)] H2 := by
    refine runs_of ?_
    refine Runs.of (fn := Try.f31) Try.func31 rfl (by kernel_rfl) [(0, .y (.one (.ptr c 0)))] (by kernel_rfl) ?_
    refine rSq [] [(0, .y (.one (.ptr c 0)))] H2
      (cast trivial (by kernel_rfl)) (by kernel_rfl) ?_
    refine rSq [(6, .y (.one (rowC ks 0 S.length 0 S.length false)), H2), (7, xi (S.length : Int), H2), (8, xb true, H2)] [(2, xb true)] H2
      (cast (Jai (Jb (H := H2) (t := 22) (ty := 0) (id := c) (off := 0) (n := 1) (cs := [rowC ks 0 S.length 0 S.length false, vi hand, .ptr q0 0, .ptr q1 0, .ptr q2 0]) (cs' := [rowC ks 0 S.length 0 S.length false]) (v := .one (rowC ks 0 S.length 0 S.length false)) (On.at hs3 1 rfl) (by kernel_rfl) (by kernel_rfl) (by kernel_rfl) (by kernel_rfl)) (Jai (Jj (H := H2) (s := NI) (t := 22) (ty := 0) (pu := true) (capd := false) (id := ks) (d := 0) (o := 0) (n := S.length) (l := S) (e := (S.length : Int)) (On.at hs3 2 rfl) (by kernel_rfl) (by first | rfl | omega | (simp; done) | (simp; omega))) (Jai (Ja (vals := [xi (S.length : Int), xi 0]) (H := H2) (op := .binOp .gtr 3 (.tmp 0) (.tmp 1) 3) (ty := 0) (r := xb (decide (((S.length : Int) : Int) > 0))) (v := xb true) (by kernel_rfl) (congrArg (fun z => xb z) (decide_eq_true (by omega)))) trivial))) (by kernel_rfl)) (by kernel_rfl) ?_
    refine Wp.ret ?_
    exact ⟨Or.inr rfl, [.one (vb true)], (by kernel_rfl), ⟨rfl, rfl⟩⟩
   have hcall84 : Runs pg an 40 [.one (vi kk)] H2 [.one (vb false)] H2 := by
    refine runs_of ?_
    refine Runs.of (fn := Try.f40) Try.func40 rfl (by kernel_rfl) [(0, xi kk)] (by kernel_rfl) ?_
    refine rSq [] [(0, xi kk)] H2
      (cast trivial (by kernel_rfl)) (by kernel_rfl) ?_
    refine rSq [(1, xb true, H2), (4, xb false, H2)] [(2, xb false)] H2
      (cast (Jai (Ja (vals := [xi kk, xi 0]) (H := H2) (op := .binOp .geq 3 (.tmp 0) (.tmp 1) 3) (ty := 0) (r := xb (decide ((kk : Int) ≥ 0))) (v := xb true) (by kernel_rfl) (congrArg (fun z => xb z) (decide_eq_true (by omega)))) (Jai (Ja (vals := [xi kk, xi 3]) (H := H2) (op := .binOp .lss 3 (.tmp 0) (.tmp 1) 3) (ty := 0) (r := xb (decide ((kk : Int) < 3))) (v := xb false) (by kernel_rfl) (congrArg (fun z => xb z) (decide_eq_false (by omega)))) trivial)) (by kernel_rfl)) (by kernel_rfl) ?_
    refine Wp.ret ?_
    exact ⟨Or.inr rfl, [.one (vb false)], (by kernel_rfl), ⟨rfl, rfl⟩⟩
   refine rSq [(1, xb true, H2), (5, xb false, H2)] [(0, .y (.one (.ptr c 0))), (1, xi kk), (5, .y (.one (.ptr n1 0))), (19, xb true)] H2
     (cast (Jai (Jc (H := H2) (g := 31) (vals := [.y (.one (.ptr c 0))]) (xs0 := [.one (.ptr c 0)]) (res := [.one (vb true)]) (ats := #[]) (ty := 0) (v := xb true) (H' := H2) [.tmp 0] (by kernel_rfl) (by kernel_rfl) hcall83 (by kernel_rfl)) (Jai (Jc (H := H2) (g := 40) (vals := [xi kk]) (xs0 := [.one (vi kk)]) (res := [.one (vb false)]) (ats := #[]) (ty := 0) (v := xb false) (H' := H2) [.tmp 0] (by kernel_rfl) (by kernel_rfl) hcall84 (by kernel_rfl)) trivial)) (by kernel_rfl)) (by kernel_rfl) ?_
   refine Wp.condT (by kernel_rfl) ?_
   refine rSq [] [(6, xi 1)] H2
     (cast trivial (by kernel_rfl)) (by kernel_rfl) ?_
   refine Wp.ret ?_
   refine ⟨Or.inr rfl, [.one (vi 1)], (by kernel_rfl), ?_⟩
   exact .inl ⟨by omega, rfl, (On.pick [0, 1, 2, 3, 4, 5] [6] (by kernel_rfl) hs3)⟩
 ·
  have hcall85 : Runs pg an 31 [.one (.ptr c 0)] H2 [.one (vb true)] H2 := by
   refine runs_of ?_
   refine Runs.of (fn := Try.f31) Try.func31 rfl (by kernel_rfl) [(0, .y (.one (.ptr c 0)))] (by kernel_rfl) ?_
   refine rSq [] [(0, .y (.one (.ptr c 0)))] H2
     (cast trivial (by kernel_rfl)) (by kernel_rfl) ?_
   refine rSq [(6, .y (.one (rowC ks 0 S.length 0 S.length false)), H2), (7, xi (S.length : Int), H2), (8, xb true, H2)] [(2, xb true)] H2
     (cast (Jai (Jb (H := H2) (t := 22) (ty := 0) (id := c) (off := 0) (n := 1) (cs := [rowC ks 0 S.length 0 S.length false, vi hand, .ptr q0 0, .ptr q1 0, .ptr q2 0]) (cs' := [rowC ks 0 S.length 0 S.length false]) (v := .one (rowC ks 0 S.length 0 S.length false)) (On.at hs3 1 rfl) (by kernel_rfl) (by kernel_rfl) (by kernel_rfl) (by kernel_rfl)) (Jai (Jj (H := H2) (s := NI) (t := 22) (ty := 0) (pu := true) (capd := false) (id := ks) (d := 0) (o := 0) (n := S.length) (l := S) (e := (S.length : Int)) (On.at hs3 2 rfl) (by kernel_rfl) (by first | rfl | omega | (simp; done) | (simp; omega))) (Jai (Ja (vals := [xi (S.length : Int), xi 0]) (H := H2) (op := .binOp .gtr 3 (.tmp 0) (.tmp 1) 3) (ty := 0) (r := xb (decide (((S.length : Int) : Int) > 0))) (v := xb true) (by kernel_rfl) (congrArg (fun z => xb z) (decide_eq_true (by omega)))) trivial))) (by kernel_rfl)) (by kernel_rfl) ?_
   refine Wp.ret ?_
   exact ⟨Or.inr rfl, [.one (vb true)], (by kernel_rfl), ⟨rfl, rfl⟩⟩
  have hcall86 : Runs pg an 40 [.one (vi kk)] H2 [.one (vb false)] H2 := by
   refine runs_of ?_
   refine Runs.of (fn := Try.f40) Try.func40 rfl (by kernel_rfl) [(0, xi kk)] (by kernel_rfl) ?_
   refine rSq [] [(0, xi kk)] H2
     (cast trivial (by kernel_rfl)) (by kernel_rfl) ?_
   refine rSq [(1, xb false, H2)] [(2, xb false)] H2
     (cast (Jai (Ja (vals := [xi kk, xi 0]) (H := H2) (op := .binOp .geq 3 (.tmp 0) (.tmp 1) 3) (ty := 0) (r := xb (decide ((kk : Int) ≥ 0))) (v := xb false) (by kernel_rfl) (congrArg (fun z => xb z) (decide_eq_false (by omega)))) trivial) (by kernel_rfl)) (by kernel_rfl) ?_
   refine Wp.ret ?_
   exact ⟨Or.inr rfl, [.one (vb false)], (by kernel_rfl), ⟨rfl, rfl⟩⟩
  refine rSq [(1, xb true, H2), (5, xb false, H2)] [(0, .y (.one (.ptr c 0))), (1, xi kk), (5, .y (.one (.ptr n1 0))), (19, xb true)] H2
    (cast (Jai (Jc (H := H2) (g := 31) (vals := [.y (.one (.ptr c 0))]) (xs0 := [.one (.ptr c 0)]) (res := [.one (vb true)]) (ats := #[]) (ty := 0) (v := xb true) (H' := H2) [.tmp 0] (by kernel_rfl) (by kernel_rfl) hcall85 (by kernel_rfl)) (Jai (Jc (H := H2) (g := 40) (vals := [xi kk]) (xs0 := [.one (vi kk)]) (res := [.one (vb false)]) (ats := #[]) (ty := 0) (v := xb false) (H' := H2) [.tmp 0] (by kernel_rfl) (by kernel_rfl) hcall86 (by kernel_rfl)) trivial)) (by kernel_rfl)) (by kernel_rfl) ?_
  refine Wp.condT (by kernel_rfl) ?_
  refine rSq [] [(6, xi 1)] H2
    (cast trivial (by kernel_rfl)) (by kernel_rfl) ?_
  refine Wp.ret ?_
  refine ⟨Or.inr rfl, [.one (vi 1)], (by kernel_rfl), ?_⟩
  exact .inl ⟨by omega, rfl, (On.pick [0, 1, 2, 3, 4, 5] [6] (by kernel_rfl) hs3)⟩
theorem drop_all (R : HP) (H : Go.Lg.Heap) (c ks q0 q1 q2 : Nat) (S : List Int) (hand : Int) (l0 l1 l2 : List EN.T) (p : PN.T) (hs : On [R, pts c (.obj [rowC ks 0 S.length 0 S.length false, vi hand, .ptr q0 0, .ptr q1 0, .ptr q2 0]), pts ks (rowO NI true 0 S), ringP EN q0 64 l0, ringP EN q1 64 l1, ringP EN q2 64 l2] H) (hS : 3 ≤ (S.length : Int)) (hT : (S.length : Int) ≤ 64) (b0 : (l0.length : Int) ≤ 64) (b1 : (l1.length : Int) ≤ 64) (b2 : (l2.length : Int) ≤ 64) : ∃ rs H', Runs pg an 16 [.one (.ptr c 0), .agg [vi p.1, vi p.2.1]] H rs H' ∧ ((posI p l0 < 0 ∧ posI p l1 < 0 ∧ posI p l2 < 0 ∧ rs = [.one (vi 0), .one (vi 0), .one (vi 3)] ∧ On [R, pts c (.obj [rowC ks 0 S.length 0 S.length false, vi hand, .ptr q0 0, .ptr q1 0, .ptr q2 0]), pts ks (rowO NI true 0 S), ringP EN q0 64 l0, ringP EN q1 64 l1, ringP EN q2 64 l2] H') ∨ (0 ≤ posI p l0 ∧ rs = [.one (vi 0), .one (vi (posI p l0)), .one (vi 0)] ∧ On [R, pts c (.obj [rowC ks 0 S.length 0 S.length false, vi hand, .ptr q0 0, .ptr q1 0, .ptr q2 0]), pts ks (rowO NI true 0 S), ringP EN q0 64 (l0.take ((posI p l0) : Int).toNat ++ l0.drop ((posI p l0) + 1 : Int).toNat), ringP EN q1 64 l1, ringP EN q2 64 l2] H') ∨ (0 ≤ posI p l1 ∧ rs = [.one (vi 1), .one (vi (posI p l1)), .one (vi 0)] ∧ On [R, pts c (.obj [rowC ks 0 S.length 0 S.length false, vi hand, .ptr q0 0, .ptr q1 0, .ptr q2 0]), pts ks (rowO NI true 0 S), ringP EN q0 64 l0, ringP EN q1 64 (l1.take ((posI p l1) : Int).toNat ++ l1.drop ((posI p l1) + 1 : Int).toNat), ringP EN q2 64 l2] H') ∨ (0 ≤ posI p l2 ∧ rs = [.one (vi 2), .one (vi (posI p l2)), .one (vi 0)] ∧ On [R, pts c (.obj [rowC ks 0 S.length 0 S.length false, vi hand, .ptr q0 0, .ptr q1 0, .ptr q2 0]), pts ks (rowO NI true 0 S), ringP EN q0 64 l0, ringP EN q1 64 l1, ringP EN q2 64 (l2.take ((posI p l2) : Int).toNat ++ l2.drop ((posI p l2) + 1 : Int).toNat)] H')) := by
 refine Runs.of (fn := Try.f16) Try.func16 rfl (by kernel_rfl) [(0, .y (.one (.ptr c 0))), (1, .y (.agg [vi p.1, vi p.2.1]))] (by kernel_rfl) ?_
 obtain ⟨n1, hn1⟩ : ∃ n, n = List.length (H : Go.Lg.Heap) := ⟨_, rfl⟩
 refine rSq [(0, .y (.one (.ptr n1 0)), (H ++ [.obj [vi p.1, vi p.2.1]]))] [(0, .y (.one (.ptr c 0))), (3, .y (.one (.ptr n1 0)))] (H ++ [.obj [vi p.1, vi p.2.1]])
   (cast (Jai (Jh (H := H) (t := 38) (ty := 0) (n := n1) (v := .agg [vi p.1, vi p.2.1]) (cs := [vi p.1, vi p.2.1]) hn1 (by kernel_rfl) (by kernel_rfl) (by kernel_rfl)) trivial) (by kernel_rfl)) (by kernel_rfl) ?_
 refine Wp.gen (cs := [R, pts c (.obj [rowC ks 0 S.length 0 S.length false, vi hand, .ptr q0 0, .ptr q1 0, .ptr q2 0]), pts ks (rowO NI true 0 S), ringP EN q0 64 l0, ringP EN q1 64 l1, ringP EN q2 64 l2, pts n1 (.obj [vi p.1, vi p.2.1])]) (On.new' hn1 (.obj [vi p.1, vi p.2.1]) hs) ?_
 intro H2 hs3
 have hz4 := posI_bd p l0
 have hz8 := posI_bd p l1
 have hz12 := posI_bd p l2
 by_cases c16 : (0 : Int) ≤ (posI p l0)
 ·
  obtain ⟨_, H20, hr21, rfl, hs22⟩ := find_0 _ (H2 : Go.Lg.Heap) (On.call [1, 2, 3, 4, 5] [0, 6] (by kernel_rfl) hs3) (c := c) (ks := ks) (q0 := q0) (q1 := q1) (q2 := q2) (S := S) (hand := hand) (l0 := l0) (l1 := l1) (l2 := l2) (p := p) (by omega) (by omega) (by first | rfl | omega | (simp; done) | (simp; omega)) (by first | rfl | omega | (simp; done) | (simp; omega)) (by first | rfl | omega | (simp; done) | (simp; omega)) (by omega)
  have hs22 : On [R, pts n1 (.obj [vi p.1, vi p.2.1]), pts c (.obj [rowC ks 0 S.length 0 S.length false, vi hand, .ptr q0 0, .ptr q1 0, .ptr q2 0]), pts ks (rowO NI true 0 S), ringP EN q0 64 l0, ringP EN q1 64 l1, ringP EN q2 64 l2] H20 := On.flat hs22
  refine rSq [(1, .y (.agg [vi p.1, vi p.2.1]), H2), (2, .tup [.one (vi 0), .one (vi (posI p l0)), .one (vi 0)], H20)] [(0, .y (.one (.ptr c 0))), (5, xi (posI p l0)), (6, xi 0), (7, xi 0)] H20
    (cast (Jai (Jb (H := H2) (t := 38) (ty := 0) (id := n1) (off := 0) (n := 2) (cs := [vi p.1, vi p.2.1]) (cs' := [vi p.1, vi p.2.1]) (v := .agg [vi p.1, vi p.2.1]) (On.at hs3 6 rfl) (by kernel_rfl) (by kernel_rfl) (by kernel_rfl) (by kernel_rfl)) (Jai (Jc (H := H2) (g := 38) (vals := [.y (.one (.ptr c 0)), .y (.agg [vi p.1, vi p.2.1])]) (xs0 := [.one (.ptr c 0), .agg [vi p.1, vi p.2.1]]) (res := [.one (vi 0), .one (vi (posI p l0)), .one (vi 0)]) (ats := #[]) (ty := 0) (v := .tup [.one (vi 0), .one (vi (posI p l0)), .one (vi 0)]) (H' := H20) [.tmp 0, .tmp 1] (by kernel_rfl) (by kernel_rfl) hr21 (by kernel_rfl)) trivial)) (by kernel_rfl)) (by kernel_rfl) ?_
  refine Wp.gen (cs := [R, pts n1 (.obj [vi p.1, vi p.2.1]), pts c (.obj [rowC ks 0 S.length 0 S.length false, vi hand, .ptr q0 0, .ptr q1 0, .ptr q2 0]), pts ks (rowO NI true 0 S), ringP EN q0 64 l0, ringP EN q1 64 l1, ringP EN q2 64 l2]) hs22 ?_
  intro H23 hs24
  refine Wp.seq ?_
  refine rSq [] [(0, .y (.one (.ptr c 0))), (5, xi (posI p l0)), (6, xi 0), (7, xi 0), (16, xb false)] H23
    (cast trivial (by kernel_rfl)) (by kernel_rfl) ?_
  refine Wp.condF (by kernel_rfl) ?_
  refine Wp.skip ?_
  obtain ⟨x25, hx25⟩ : ∃ x, l0[((posI p l0) : Int).toNat]? = some x := get_of (by first | rfl | omega | (simp; done) | (simp; omega))
  have hlfz26 : ((l0.take ((posI p l0) : Int).toNat ++ l0.drop ((posI p l0) + 1 : Int).toNat).length : Int) = ((l0.length : Int) - 1) := by { first | rfl | omega | (simp; done) | (simp; omega) }
  obtain ⟨_, H28, hr29, rfl, hs30⟩ := take_ok _ (H23 : Go.Lg.Heap) (On.call [4] [0, 1, 2, 3, 5, 6] (by kernel_rfl) hs24) (q := q0) (room := 64) (l := l0) (i := (posI p l0)) (x := x25) (by omega) (by first | rfl | omega | (simp; done) | (simp; omega)) hx25 (l' := (l0.take ((posI p l0) : Int).toNat ++ l0.drop ((posI p l0) + 1 : Int).toNat)) rfl
  have hs30 : On [R, pts n1 (.obj [vi p.1, vi p.2.1]), pts c (.obj [rowC ks 0 S.length 0 S.length false, vi hand, .ptr q0 0, .ptr q1 0, .ptr q2 0]), pts ks (rowO NI true 0 S), ringP EN q1 64 l1, ringP EN q2 64 l2, ringP EN q0 64 (l0.take ((posI p l0) : Int).toNat ++ l0.drop ((posI p l0) + 1 : Int).toNat)] H28 := On.flat hs30
  refine rSq [(6, .y (.one (.ptr q0 0)), H23), (8, .tup [.agg [vi x25.1.1, vi x25.1.2.1, vb x25.2.1], .one (vi 0)], H28)] [(5, xi (posI p l0)), (7, xi 0)] H28
    (cast (Jai (Jb (H := H23) (t := 78) (ty := 0) (id := c) (off := 2) (n := 1) (cs := [rowC ks 0 S.length 0 S.length false, vi hand, .ptr q0 0, .ptr q1 0, .ptr q2 0]) (cs' := [.ptr q0 0]) (v := .one (.ptr q0 0)) (On.at hs24 2 rfl) (by kernel_rfl) (by kernel_rfl) (by kernel_rfl) (by kernel_rfl)) (Jai (Jc (H := H23) (g := 39) (vals := [.y (.one (.ptr q0 0)), xi (posI p l0)]) (xs0 := [.one (.ptr q0 0), .one (vi (posI p l0))]) (res := [.agg [vi x25.1.1, vi x25.1.2.1, vb x25.2.1], .one (vi 0)]) (ats := #[]) (ty := 0) (v := .tup [.agg [vi x25.1.1, vi x25.1.2.1, vb x25.2.1], .one (vi 0)]) (H' := H28) [.tmp 0, .tmp 1] (by kernel_rfl) (by kernel_rfl) hr29 (by kernel_rfl)) trivial)) (by kernel_rfl)) (by kernel_rfl) ?_
  refine Wp.gen (cs := [R, pts n1 (.obj [vi p.1, vi p.2.1]), pts c (.obj [rowC ks 0 S.length 0 S.length false, vi hand, .ptr q0 0, .ptr q1 0, .ptr q2 0]), pts ks (rowO NI true 0 S), ringP EN q1 64 l1, ringP EN q2 64 l2, ringP EN q0 64 (l0.take ((posI p l0) : Int).toNat ++ l0.drop ((posI p l0) + 1 : Int).toNat)]) hs30 ?_
  intro H31 hs32
  refine rSq [] [(4, xi 0), (5, xi (posI p l0)), (6, xi 0)] H31
    (cast trivial (by kernel_rfl)) (by kernel_rfl) ?_
  refine Wp.ret ?_
  refine ⟨Or.inr rfl, [.one (vi 0), .one (vi (posI p l0)), .one (vi 0)], (by kernel_rfl), ?_⟩
  exact .inr (.inl ⟨by omega, rfl, (On.pick [0, 2, 3, 6, 4, 5] [1] (by kernel_rfl) hs32)⟩)
 ·
  by_cases c36 : (0 : Int) ≤ (posI p l1)
  ·
   obtain ⟨_, H40, hr41, rfl, hs42⟩ := find_1 _ (H2 : Go.Lg.Heap) (On.call [1, 2, 3, 4, 5] [0, 6] (by kernel_rfl) hs3) (c := c) (ks := ks) (q0 := q0) (q1 := q1) (q2 := q2) (S := S) (hand := hand) (l0 := l0) (l1 := l1) (l2 := l2) (p := p) (by omega) (by omega) (by first | rfl | omega | (simp; done) | (simp; omega)) (by first | rfl | omega | (simp; done) | (simp; omega)) (by first | rfl | omega | (simp; done) | (simp; omega)) (by omega) (by omega)
   have hs42 : On [R, pts n1 (.obj [vi p.1, vi p.2.1]), pts c (.obj [rowC ks 0 S.length 0 S.length false, vi hand, .ptr q0 0, .ptr q1 0, .ptr q2 0]), pts ks (rowO NI true 0 S), ringP EN q0 64 l0, ringP EN q1 64 l1, ringP EN q2 64 l2] H40 := On.flat hs42
   refine rSq [(1, .y (.agg [vi p.1, vi p.2.1]), H2), (2, .tup [.one (vi 1), .one (vi (posI p l1)), .one (vi 0)], H40)] [(0, .y (.one (.ptr c 0))), (5, xi (posI p l1)), (6, xi 0), (7, xi 1)] H40
     (cast (Jai (Jb (H := H2) (t := 38) (ty := 0) (id := n1) (off := 0) (n := 2) (cs := [vi p.1, vi p.2.1]) (cs' := [vi p.1, vi p.2.1]) (v := .agg [vi p.1, vi p.2.1]) (On.at hs3 6 rfl) (by kernel_rfl) (by kernel_rfl) (by kernel_rfl) (by kernel_rfl)) (Jai (Jc (H := H2) (g := 38) (vals := [.y (.one (.ptr c 0)), .y (.agg [vi p.1, vi p.2.1])]) (xs0 := [.one (.ptr c 0), .agg [vi p.1, vi p.2.1]]) (res := [.one (vi 1), .one (vi (posI p l1)), .one (vi 0)]) (ats := #[]) (ty := 0) (v := .tup [.one (vi 1), .one (vi (posI p l1)), .one (vi 0)]) (H' := H40) [.tmp 0, .tmp 1] (by kernel_rfl) (by kernel_rfl) hr41 (by kernel_rfl)) trivial)) (by kernel_rfl)) (by kernel_rfl) ?_
   refine Wp.gen (cs := [R, pts n1 (.obj [vi p.1, vi p.2.1]), pts c (.obj [rowC ks 0 S.length 0 S.length false, vi hand, .ptr q0 0, .ptr q1 0, .ptr q2 0]), pts ks (rowO NI true 0 S), ringP EN q0 64 l0, ringP EN q1 64 l1, ringP EN q2 64 l2]) hs42 ?_
   intro H43 hs44
   refine Wp.seq ?_
   refine rSq [] [(0, .y (.one (.ptr c 0))), (5, xi (posI p l1)), (6, xi 0), (7, xi 1), (16, xb false)] H43
     (cast trivial (by kernel_rfl)) (by kernel_rfl) ?_
   refine Wp.condF (by kernel_rfl) ?_
   refine Wp.skip ?_
   obtain ⟨x45, hx45⟩ : ∃ x, l1[((posI p l1) : Int).toNat]? = some x := get_of (by first | rfl | omega | (simp; done) | (simp; omega))
   have hlfz46 : ((l1.take ((posI p l1) : Int).toNat ++ l1.drop ((posI p l1) + 1 : Int).toNat).length : Int) = ((l1.length : Int) - 1) := by { first | rfl | omega | (simp; done) | (simp; omega) }
   obtain ⟨_, H48, hr49, rfl, hs50⟩ := take_ok _ (H43 : Go.Lg.Heap) (On.call [5] [0, 1, 2, 3, 4, 6] (by kernel_rfl) hs44) (q := q1) (room := 64) (l := l1) (i := (posI p l1)) (x := x45) (by omega) (by first | rfl | omega | (simp; done) | (simp; omega)) hx45 (l' := (l1.take ((posI p l1) : Int).toNat ++ l1.drop ((posI p l1) + 1 : Int).toNat)) rfl
   have hs50 : On [R, pts n1 (.obj [vi p.1, vi p.2.1]), pts c (.obj [rowC ks 0 S.length 0 S.length false, vi hand, .ptr q0 0, .ptr q1 0, .ptr q2 0]), pts ks (rowO NI true 0 S), ringP EN q0 64 l0, ringP EN q2 64 l2, ringP EN q1 64 (l1.take ((posI p l1) : Int).toNat ++ l1.drop ((posI p l1) + 1 : Int).toNat)] H48 := On.flat hs50
   refine rSq [(6, .y (.one (.ptr q1 0)), H43), (8, .tup [.agg [vi x45.1.1, vi x45.1.2.1, vb x45.2.1], .one (vi 0)], H48)] [(5, xi (posI p l1)), (7, xi 1)] H48
     (cast (Jai (Jb (H := H43) (t := 78) (ty := 0) (id := c) (off := 3) (n := 1) (cs := [rowC ks 0 S.length 0 S.length false, vi hand, .ptr q0 0, .ptr q1 0, .ptr q2 0]) (cs' := [.ptr q1 0]) (v := .one (.ptr q1 0)) (On.at hs44 2 rfl) (by kernel_rfl) (by kernel_rfl) (by kernel_rfl) (by kernel_rfl)) (Jai (Jc (H := H43) (g := 39) (vals := [.y (.one (.ptr q1 0)), xi (posI p l1)]) (xs0 := [.one (.ptr q1 0), .one (vi (posI p l1))]) (res := [.agg [vi x45.1.1, vi x45.1.2.1, vb x45.2.1], .one (vi 0)]) (ats := #[]) (ty := 0) (v := .tup [.agg [vi x45.1.1, vi x45.1.2.1, vb x45.2.1], .one (vi 0)]) (H' := H48) [.tmp 0, .tmp 1] (by kernel_rfl) (by kernel_rfl) hr49 (by kernel_rfl)) trivial)) (by kernel_rfl)) (by kernel_rfl) ?_
   refine Wp.gen (cs := [R, pts n1 (.obj [vi p.1, vi p.2.1]), pts c (.obj [rowC ks 0 S.length 0 S.length false, vi hand, .ptr q0 0, .ptr q1 0, .ptr q2 0]), pts ks (rowO NI true 0 S), ringP EN q0 64 l0, ringP EN q2 64 l2, ringP EN q1 64 (l1.take ((posI p l1) : Int).toNat ++ l1.drop ((posI p l1) + 1 : Int).toNat)]) hs50 ?_
   intro H51 hs52
   refine rSq [] [(4, xi 1), (5, xi (posI p l1)), (6, xi 0)] H51
     (cast trivial (by kernel_rfl)) (by kernel_rfl) ?_
   refine Wp.ret ?_
   refine ⟨Or.inr rfl, [.one (vi 1), .one (vi (posI p l1)), .one (vi 0)], (by kernel_rfl), ?_⟩
   exact .inr (.inr (.inl ⟨by omega, rfl, (On.pick [0, 2, 3, 4, 6, 5] [1] (by kernel_rfl) hs52)⟩))
  ·
   by_cases c56 : (0 : Int) ≤ (posI p l2)
   ·
    obtain ⟨_, H60, hr61, rfl, hs62⟩ := find_2 _ (H2 : Go.Lg.Heap) (On.call [1, 2, 3, 4, 5] [0, 6] (by kernel_rfl) hs3) (c := c) (ks := ks) (q0 := q0) (q1 := q1) (q2 := q2) (S := S) (hand := hand) (l0 := l0) (l1 := l1) (l2 := l2) (p := p) (by omega) (by omega) (by first | rfl | omega | (simp; done) | (simp; omega)) (by first | rfl | omega | (simp; done) | (simp; omega)) (by first | rfl | omega | (simp; done) | (simp; omega)) (by omega) (by omega) (by omega)
    have hs62 : On [R, pts n1 (.obj [vi p.1, vi p.2.1]), pts c (.obj [rowC ks 0 S.length 0 S.length false, vi hand, .ptr q0 0, .ptr q1 0, .ptr q2 0]), pts ks (rowO NI true 0 S), ringP EN q0 64 l0, ringP EN q1 64 l1, ringP EN q2 64 l2] H60 := On.flat hs62
    refine rSq [(1, .y (.agg [vi p.1, vi p.2.1]), H2), (2, .tup [.one (vi 2), .one (vi (posI p l2)), .one (vi 0)], H60)] [(0, .y (.one (.ptr c 0))), (5, xi (posI p l2)), (6, xi 0), (7, xi 2)] H60
      (cast (Jai (Jb (H := H2) (t := 38) (ty := 0) (id := n1) (off := 0) (n := 2) (cs := [vi p.1, vi p.2.1]) (cs' := [vi p.1, vi p.2.1]) (v := .agg [vi p.1, vi p.2.1]) (On.at hs3 6 rfl) (by kernel_rfl) (by kernel_rfl) (by kernel_rfl) (by kernel_rfl)) (Jai (Jc (H := H2) (g := 38) (vals := [.y (.one (.ptr c 0)), .y (.agg [vi p.1, vi p.2.1])]) (xs0 := [.one (.ptr c 0), .agg [vi p.1, vi p.2.1]]) (res := [.one (vi 2), .one (vi (posI p l2)), .one (vi 0)]) (ats := #[]) (ty := 0) (v := .tup [.one (vi 2), .one (vi (posI p l2)), .one (vi 0)]) (H' := H60) [.tmp 0, .tmp 1] (by kernel_rfl) (by kernel_rfl) hr61 (by kernel_rfl)) trivial)) (by kernel_rfl)) (by kernel_rfl) ?_
    refine Wp.gen (cs := [R, pts n1 (.obj [vi p.1, vi p.2.1]), pts c (.obj [rowC ks 0 S.length 0 S.length false, vi hand, .ptr q0 0, .ptr q1 0, .ptr q2 0]), pts ks (rowO NI true 0 S), ringP EN q0 64 l0, ringP EN q1 64 l1, ringP EN q2 64 l2]) hs62 ?_
    intro H63 hs64
    refine Wp.seq ?_
    refine rSq [] [(0, .y (.one (.ptr c 0))), (5, xi (posI p l2)), (6, xi 0), (7, xi 2), (16, xb false)] H63
      (cast trivial (by kernel_rfl)) (by kernel_rfl) ?_
    refine Wp.condF (by kernel_rfl) ?_
    refine Wp.skip ?_
    obtain ⟨x65, hx65⟩ : ∃ x, l2[((posI p l2) : Int).toNat]? = some x := get_of (by first | rfl | omega | (simp; done) | (simp; omega))
    have hlfz66 : ((l2.take ((posI p l2) : Int).toNat ++ l2.drop ((posI p l2) + 1 : Int).toNat).length : Int) = ((l2.length : Int) - 1) := by { first | rfl | omega | (simp; done) | (simp; omega) }
    obtain ⟨_, H68, hr69, rfl, hs70⟩ := take_ok _ (H63 : Go.Lg.Heap) (On.call [6] [0, 1, 2, 3, 4, 5] (by kernel_rfl) hs64) (q := q2) (room := 64) (l := l2) (i := (posI p l2)) (x := x65) (by omega) (by first | rfl | omega | (simp; done) | (simp; omega)) hx65 (l' := (l2.take ((posI p l2) : Int).toNat ++ l2.drop ((posI p l2) + 1 : Int).toNat)) rfl
    have hs70 : On [R, pts n1 (.obj [vi p.1, vi p.2.1]), pts c (.obj [rowC ks 0 S.length 0 S.length false, vi hand, .ptr q0 0, .ptr q1 0, .ptr q2 0]), pts ks (rowO NI true 0 S), ringP EN q0 64 l0, ringP EN q1 64 l1, ringP EN q2 64 (l2.take ((posI p l2) : Int).toNat ++ l2.drop ((posI p l2) + 1 : Int).toNat)] H68 := On.flat hs70
    refine rSq [(6, .y (.one (.ptr q2 0)), H63), (8, .tup [.agg [vi x65.1.1, vi x65.1.2.1, vb x65.2.1], .one (vi 0)], H68)] [(5, xi (posI p l2)), (7, xi 2)] H68
      (cast (Jai (Jb (H := H63) (t := 78) (ty := 0) (id := c) (off := 4) (n := 1) (cs := [rowC ks 0 S.length 0 S.length false, vi hand, .ptr q0 0, .ptr q1 0, .ptr q2 0]) (cs' := [.ptr q2 0]) (v := .one (.ptr q2 0)) (On.at hs64 2 rfl) (by kernel_rfl) (by kernel_rfl) (by kernel_rfl) (by kernel_rfl)) (Jai (Jc (H := H63) (g := 39) (vals := [.y (.one (.ptr q2 0)), xi (posI p l2)]) (xs0 := [.one (.ptr q2 0), .one (vi (posI p l2))]) (res := [.agg [vi x65.1.1, vi x65.1.2.1, vb x65.2.1], .one (vi 0)]) (ats := #[]) (ty := 0) (v := .tup [.agg [vi x65.1.1, vi x65.1.2.1, vb x65.2.1], .one (vi 0)]) (H' := H68) [.tmp 0, .tmp 1] (by kernel_rfl) (by kernel_rfl) hr69 (by kernel_rfl)) trivial)) (by kernel_rfl)) (by kernel_rfl) ?_
    refine Wp.gen (cs := [R, pts n1 (.obj [vi p.1, vi p.2.1]), pts c (.obj [rowC ks 0 S.length 0 S.length false, vi hand, .ptr q0 0, .ptr q1 0, .ptr q2 0]), pts ks (rowO NI true 0 S), ringP EN q0 64 l0, ringP EN q1 64 l1, ringP EN q2 64 (l2.take ((posI p l2) : Int).toNat ++ l2.drop ((posI p l2) + 1 : Int).toNat)]) hs70 ?_
    intro H71 hs72
    refine rSq [] [(4, xi 2), (5, xi (posI p l2)), (6, xi 0)] H71
      (cast trivial (by kernel_rfl)) (by kernel_rfl) ?_
    refine Wp.ret ?_
    refine ⟨Or.inr rfl, [.one (vi 2), .one (vi (posI p l2)), .one (vi 0)], (by kernel_rfl), ?_⟩
    exact .inr (.inr (.inr (⟨by omega, rfl, (On.pick [0, 2, 3, 4, 5, 6] [1] (by kernel_rfl) hs72)⟩)))
   ·
    obtain ⟨_, H76, hr77, rfl, hs78⟩ := find_3 _ (H2 : Go.Lg.Heap) (On.call [1, 2, 3, 4, 5] [0, 6] (by kernel_rfl) hs3) (c := c) (ks := ks) (q0 := q0) (q1 := q1) (q2 := q2) (S := S) (hand := hand) (l0 := l0) (l1 := l1) (l2 := l2) (p := p) (by omega) (by omega) (by first | rfl | omega | (simp; done) | (simp; omega)) (by first | rfl | omega | (simp; done) | (simp; omega)) (by first | rfl | omega | (simp; done) | (simp; omega)) (by omega) (by omega) (by omega)
    have hs78 : On [R, pts n1 (.obj [vi p.1, vi p.2.1]), pts c (.obj [rowC ks 0 S.length 0 S.length false, vi hand, .ptr q0 0, .ptr q1 0, .ptr q2 0]), pts ks (rowO NI true 0 S), ringP EN q0 64 l0, ringP EN q1 64 l1, ringP EN q2 64 l2] H76 := On.flat hs78
    refine rSq [(1, .y (.agg [vi p.1, vi p.2.1]), H2), (2, .tup [.one (vi 0), .one (vi 0), .one (vi 3)], H76)] [(0, .y (.one (.ptr c 0))), (5, xi 0), (6, xi 3), (7, xi 0)] H76
      (cast (Jai (Jb (H := H2) (t := 38) (ty := 0) (id := n1) (off := 0) (n := 2) (cs := [vi p.1, vi p.2.1]) (cs' := [vi p.1, vi p.2.1]) (v := .agg [vi p.1, vi p.2.1]) (On.at hs3 6 rfl) (by kernel_rfl) (by kernel_rfl) (by kernel_rfl) (by kernel_rfl)) (Jai (Jc (H := H2) (g := 38) (vals := [.y (.one (.ptr c 0)), .y (.agg [vi p.1, vi p.2.1])]) (xs0 := [.one (.ptr c 0), .agg [vi p.1, vi p.2.1]]) (res := [.one (vi 0), .one (vi 0), .one (vi 3)]) (ats := #[]) (ty := 0) (v := .tup [.one (vi 0), .one (vi 0), .one (vi 3)]) (H' := H76) [.tmp 0, .tmp 1] (by kernel_rfl) (by kernel_rfl) hr77 (by kernel_rfl)) trivial)) (by kernel_rfl)) (by kernel_rfl) ?_
    refine Wp.gen (cs := [R, pts n1 (.obj [vi p.1, vi p.2.1]), pts c (.obj [rowC ks 0 S.length 0 S.length false, vi hand, .ptr q0 0, .ptr q1 0, .ptr q2 0]), pts ks (rowO NI true 0 S), ringP EN q0 64 l0, ringP EN q1 64 l1, ringP EN q2 64 l2]) hs78 ?_
    intro H79 hs80
    refine Wp.seq ?_
    refine rSq [] [(0, .y (.one (.ptr c 0))), (5, xi 0), (6, xi 3), (7, xi 0), (16, xb true)] H79
      (cast trivial (by kernel_rfl)) (by kernel_rfl) ?_
    refine Wp.condT (by kernel_rfl) ?_
    refine rSq [] [(4, xi 0), (5, xi 0), (6, xi 3)] H79
      (cast trivial (by kernel_rfl)) (by kernel_rfl) ?_
    refine Wp.ret ?_
    refine ⟨Or.inr rfl, [.one (vi 0), .one (vi 0), .one (vi 3)], (by kernel_rfl), ?_⟩
    exact .inl ⟨by omega, by omega, by omega, rfl, (On.pick [0, 2, 3, 4, 5, 6] [1] (by kernel_rfl) hs80)⟩
end Go.Proofs.Ytjdnhbnpdbpgbaa
