/- Lemmas. -/
import Derived.Test.YtjdnhbnpdbpgbaaR18F
namespace Go.Proofs.Ytjdnhbnpdbpgbaa
open Go.Lg
set_option linter.unusedVariables false
set_option maxRecDepth 100000
set_option maxHeartbeats 8000000
set_option linter.unusedSimpArgs false
theorem pids_snoc (l : List EN.T) (p : PN.T) (b : Bool) : pids (l ++ [(p, (b, ()))]) = pids l ++ [p] := by simp
theorem stands_all (R : HP) (H : HH) (c ks q0 q1 q2 : Nat) (S : List Int) (hand : Int) (l0 l1 l2 : List EN.T) (p : PN.T) (hs : On [R, pts c (.obj (cO ks S hand q0 q1 q2)), kP ks S, gP q0 l0, gP q1 l1, gP q2 l2] H) (hS : 3 ≤ (S.length : Int)) (hT : (S.length : Int) ≤ 64) (b0 : (l0.length : Int) ≤ 64) (b1 : (l1.length : Int) ≤ 64) (b2 : (l2.length : Int) ≤ 64) : ∃ rs H', Runs pg an 41 [.one (.ptr c 0), .agg [vi p.1, vi p.2.1]] H rs H' ∧ (((0 ≤ posI p l0 ∨ 0 ≤ posI p l1 ∨ 0 ≤ posI p l2) ∧ rs = [.one (vb true)] ∧ On [R, pts c (.obj (cO ks S hand q0 q1 q2)), kP ks S, gP q0 l0, gP q1 l1, gP q2 l2] H') ∨ (posI p l0 < 0 ∧ posI p l1 < 0 ∧ posI p l2 < 0 ∧ rs = [.one (vb false)] ∧ On [R, pts c (.obj (cO ks S hand q0 q1 q2)), kP ks S, gP q0 l0, gP q1 l1, gP q2 l2] H')) := by
 refine rOF Try.func41 rfl ?_
 obtain ⟨n1, hn1⟩ := lX H
 refine rGz [(0, yp c), (3, yp n1)] (On.new' hn1 (.obj [vi p.1, vi p.2.1]) hs) (zL 0 (qB 38 [vi p.1, vi p.2.1] hn1)) fun H2 hs3 => ?_
 have hz4 := posI_bd p l0
 have hz8 := posI_bd p l1
 have hz12 := posI_bd p l2
 by_cases c16 : (0 : Int) ≤ (posI p l0)
 ·
  obtain ⟨_, H20, hr21, rfl, hs22⟩ := find_0 _ (H2 : HH) (On.call [1, 2, 3, 4, 5] [0, 6] (by kernel_rfl) hs3) (c := c) (ks := ks) (q0 := q0) (q1 := q1) (q2 := q2) (S := S) (hand := hand) (l0 := l0) (l1 := l1) (l2 := l2) (p := p) (by omega) (by omega) (by first | rfl | omega | (simp only [ek_]; omega) | (simp; done) | (simp; omega)) (by first | rfl | omega | (simp only [ek_]; omega) | (simp; done) | (simp; omega)) (by first | rfl | omega | (simp only [ek_]; omega) | (simp; done) | (simp; omega)) (by omega)
  have hs22 : On [R, pts n1 (.obj [vi p.1, vi p.2.1]), pts c (.obj (cO ks S hand q0 q1 q2)), kP ks S, gP q0 l0, gP q1 l1, gP q2 l2] H20 := On.flat hs22
  refine rGz [(7, xi 0)] hs22 (zA 1 (qL 38 0 (.agg [vi p.1, vi p.2.1]) (On.at hs3 6 rfl)) (zL 2 (qC2 hr21))) fun H23 hs24 => ?_
  refine rs0 [(4, xb true)] ?_
  refine wE ?_
  refine ⟨Or.inr rfl, [.one (vb true)], (by kernel_rfl), ?_⟩
  exact .inl ⟨by omega, rfl, (On.pick [0, 2, 3, 4, 5, 6] [1] (by kernel_rfl) hs24)⟩
 by_cases c28 : (0 : Int) ≤ (posI p l1)
 ·
  obtain ⟨_, H32, hr33, rfl, hs34⟩ := find_1 _ (H2 : HH) (On.call [1, 2, 3, 4, 5] [0, 6] (by kernel_rfl) hs3) (c := c) (ks := ks) (q0 := q0) (q1 := q1) (q2 := q2) (S := S) (hand := hand) (l0 := l0) (l1 := l1) (l2 := l2) (p := p) (by omega) (by omega) (by first | rfl | omega | (simp only [ek_]; omega) | (simp; done) | (simp; omega)) (by first | rfl | omega | (simp only [ek_]; omega) | (simp; done) | (simp; omega)) (by first | rfl | omega | (simp only [ek_]; omega) | (simp; done) | (simp; omega)) (by omega) (by omega)
  have hs34 : On [R, pts n1 (.obj [vi p.1, vi p.2.1]), pts c (.obj (cO ks S hand q0 q1 q2)), kP ks S, gP q0 l0, gP q1 l1, gP q2 l2] H32 := On.flat hs34
  refine rGz [(7, xi 0)] hs34 (zA 1 (qL 38 0 (.agg [vi p.1, vi p.2.1]) (On.at hs3 6 rfl)) (zL 2 (qC2 hr33))) fun H35 hs36 => ?_
  refine rs0 [(4, xb true)] ?_
  refine wE ?_
  refine ⟨Or.inr rfl, [.one (vb true)], (by kernel_rfl), ?_⟩
  exact .inl ⟨by omega, rfl, (On.pick [0, 2, 3, 4, 5, 6] [1] (by kernel_rfl) hs36)⟩
 by_cases c40 : (0 : Int) ≤ (posI p l2)
 ·
  obtain ⟨_, H44, hr45, rfl, hs46⟩ := find_2 _ (H2 : HH) (On.call [1, 2, 3, 4, 5] [0, 6] (by kernel_rfl) hs3) (c := c) (ks := ks) (q0 := q0) (q1 := q1) (q2 := q2) (S := S) (hand := hand) (l0 := l0) (l1 := l1) (l2 := l2) (p := p) (by omega) (by omega) (by first | rfl | omega | (simp only [ek_]; omega) | (simp; done) | (simp; omega)) (by first | rfl | omega | (simp only [ek_]; omega) | (simp; done) | (simp; omega)) (by first | rfl | omega | (simp only [ek_]; omega) | (simp; done) | (simp; omega)) (by omega) (by omega) (by omega)
  have hs46 : On [R, pts n1 (.obj [vi p.1, vi p.2.1]), pts c (.obj (cO ks S hand q0 q1 q2)), kP ks S, gP q0 l0, gP q1 l1, gP q2 l2] H44 := On.flat hs46
  refine rGz [(7, xi 0)] hs46 (zA 1 (qL 38 0 (.agg [vi p.1, vi p.2.1]) (On.at hs3 6 rfl)) (zL 2 (qC2 hr45))) fun H47 hs48 => ?_
  refine rs0 [(4, xb true)] ?_
  refine wE ?_
  refine ⟨Or.inr rfl, [.one (vb true)], (by kernel_rfl), ?_⟩
  exact .inl ⟨by omega, rfl, (On.pick [0, 2, 3, 4, 5, 6] [1] (by kernel_rfl) hs48)⟩
 obtain ⟨_, H52, hr53, rfl, hs54⟩ := find_3 _ (H2 : HH) (On.call [1, 2, 3, 4, 5] [0, 6] (by kernel_rfl) hs3) (c := c) (ks := ks) (q0 := q0) (q1 := q1) (q2 := q2) (S := S) (hand := hand) (l0 := l0) (l1 := l1) (l2 := l2) (p := p) (by omega) (by omega) (by first | rfl | omega | (simp only [ek_]; omega) | (simp; done) | (simp; omega)) (by first | rfl | omega | (simp only [ek_]; omega) | (simp; done) | (simp; omega)) (by first | rfl | omega | (simp only [ek_]; omega) | (simp; done) | (simp; omega)) (by omega) (by omega) (by omega)
 have hs54 : On [R, pts n1 (.obj [vi p.1, vi p.2.1]), pts c (.obj (cO ks S hand q0 q1 q2)), kP ks S, gP q0 l0, gP q1 l1, gP q2 l2] H52 := On.flat hs54
 refine rGz [(7, xi 3)] hs54 (zA 1 (qL 38 0 (.agg [vi p.1, vi p.2.1]) (On.at hs3 6 rfl)) (zL 2 (qC2 hr53))) fun H55 hs56 => ?_
 refine rs0 [(4, xb false)] ?_
 refine wE ?_
 refine ⟨Or.inr rfl, [.one (vb false)], (by kernel_rfl), ?_⟩
 exact .inr ⟨by omega, by omega, by omega, rfl, (On.pick [0, 2, 3, 4, 5, 6] [1] (by kernel_rfl) hs56)⟩
end Go.Proofs.Ytjdnhbnpdbpgbaa
