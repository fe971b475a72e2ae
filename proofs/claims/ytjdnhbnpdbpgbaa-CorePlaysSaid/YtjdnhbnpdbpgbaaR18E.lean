/- Lemmas. -/
import Derived.Test.YtjdnhbnpdbpgbaaR18D
namespace Go.Proofs.Ytjdnhbnpdbpgbaa
open Go.Lg
set_option linter.unusedVariables false
set_option maxRecDepth 100000
set_option maxHeartbeats 8000000
set_option linter.unusedSimpArgs false
theorem nx_pick {S : List Int} {hand : Int} {l0 l1 l2 : List EN.T} (hok : okW S = true) (h0 : 0 ≤ hand) (h1 : hand < (S.length : Int)) :
    (l0.length = 0 ∧ l1.length = 0 ∧ l2.length = 0 ∧ nx S hand (decide (((l0.length : Int) : Int) > 0)) (decide (((l1.length : Int) : Int) > 0)) (decide (((l2.length : Int) : Int) > 0)) = (0, 0, 3)) ∨
    (∃ x, l0[0]? = some x ∧ nx S hand (decide (((l0.length : Int) : Int) > 0)) (decide (((l1.length : Int) : Int) > 0)) (decide (((l2.length : Int) : Int) > 0)) = (0, (hand + 1) % (S.length : Int), 0)) ∨ (∃ x, l1[0]? = some x ∧ nx S hand (decide (((l0.length : Int) : Int) > 0)) (decide (((l1.length : Int) : Int) > 0)) (decide (((l2.length : Int) : Int) > 0)) = (1, (hand + 1) % (S.length : Int), 0)) ∨ (∃ x, l2[0]? = some x ∧ nx S hand (decide (((l0.length : Int) : Int) > 0)) (decide (((l1.length : Int) : Int) > 0)) (decide (((l2.length : Int) : Int) > 0)) = (2, (hand + 1) % (S.length : Int), 0)) := by
  have hx : at_ S hand % 3 = 0 ∨ at_ S hand % 3 = 1 ∨ at_ S hand % 3 = 2 := by omega
  have e1 : (at_ S hand + 1) % 3 = (at_ S hand % 3 + 1) % 3 := by omega
  have e2 : (at_ S hand + 2) % 3 = (at_ S hand % 3 + 2) % 3 := by omega
  have g : ∀ l : List EN.T, (l.length = 0 ∧ decide (((l.length : Int) : Int) > 0) = false) ∨ ((∃ x, l[0]? = some x) ∧ decide (((l.length : Int) : Int) > 0) = true) := fun l => by
    cases l with
    | nil => exact .inl ⟨rfl, rfl⟩
    | cons a l => exact .inr ⟨⟨a, rfl⟩, decide_eq_true (by show (((l.length + 1 : Nat) : Int)) > 0; omega)⟩
  have hh : ¬ (hand < 0 ∨ (S.length : Int) ≤ hand) := by omega
  unfold nx
  rw [if_neg (by rw [hok]; simp), if_neg hh]
  simp only [e1, e2]
  rcases g l0 with ⟨a0, b0⟩ | ⟨a0, b0⟩ <;> rcases g l1 with ⟨a1, b1⟩ | ⟨a1, b1⟩ <;> rcases g l2 with ⟨a2, b2⟩ | ⟨a2, b2⟩ <;> rcases hx with hx | hx | hx <;> rw [hx, b0, b1, b2] <;>
    first
    | exact .inl ⟨a0, a1, a2, rfl⟩
    | exact .inr (.inl (a0.elim fun x hx => ⟨x, hx, rfl⟩))
    | exact .inr (.inr (.inl (a1.elim fun x hx => ⟨x, hx, rfl⟩)))
    | exact .inr (.inr (.inr (a2.elim fun x hx => ⟨x, hx, rfl⟩)))
theorem hand_ok {S : List Int} {hand : Int} (hS : 3 ≤ (S.length : Int)) : 0 ≤ (hand + 1) % (S.length : Int) ∧ (hand + 1) % (S.length : Int) < (S.length : Int) :=
  ⟨Int.emod_nonneg _ (by omega), Int.emod_lt_of_pos _ (by omega)⟩
theorem some_lt {α : Type} {l : List α} {x : α} (h : l[0]? = some x) : 0 < l.length := by
  cases l with
  | nil => cases h
  | cons _ _ => exact Nat.succ_pos _
theorem pick_all (R : HP) (H : HH) (c ks q0 q1 q2 : Nat) (S : List Int) (hand : Int) (l0 l1 l2 : List EN.T) (hs : On [R, pts c (.obj (cO ks S hand q0 q1 q2)), kP ks S, gP q0 l0, gP q1 l1, gP q2 l2] H) (hS : 3 ≤ (S.length : Int)) (hT : (S.length : Int) ≤ 64) (b0 : (l0.length : Int) ≤ 64) (b1 : (l1.length : Int) ≤ 64) (b2 : (l2.length : Int) ≤ 64) (hok : okW S = true) (h0 : 0 ≤ hand) (h1 : hand < (S.length : Int)) : ∃ rs H', Runs pg an 13 [.one (.ptr c 0)] H rs H' ∧ ((l0.length = 0 ∧ l1.length = 0 ∧ l2.length = 0 ∧ nx S hand (decide (((l0.length : Int) : Int) > 0)) (decide (((l1.length : Int) : Int) > 0)) (decide (((l2.length : Int) : Int) > 0)) = (0, 0, 3) ∧ rs = [.agg [vi 0, vi 0, vb false], .one (vi 0), .one (vi 3)] ∧ On [R, pts c (.obj (cO ks S hand q0 q1 q2)), kP ks S, gP q0 l0, gP q1 l1, gP q2 l2] H') ∨ (∃ x, l0[0]? = some x ∧ nx S hand (decide (((l0.length : Int) : Int) > 0)) (decide (((l1.length : Int) : Int) > 0)) (decide (((l2.length : Int) : Int) > 0)) = (0, (hand + 1) % (S.length : Int), 0) ∧ rs = [.agg [vi x.1.1, vi x.1.2.1, vb x.2.1], .one (vi 0), .one (vi 0)] ∧ On [R, pts c (.obj (cO ks S ((hand + 1) % (S.length : Int)) q0 q1 q2)), kP ks S, gP q0 (l0.drop 1), gP q1 l1, gP q2 l2] H') ∨ (∃ x, l1[0]? = some x ∧ nx S hand (decide (((l0.length : Int) : Int) > 0)) (decide (((l1.length : Int) : Int) > 0)) (decide (((l2.length : Int) : Int) > 0)) = (1, (hand + 1) % (S.length : Int), 0) ∧ rs = [.agg [vi x.1.1, vi x.1.2.1, vb x.2.1], .one (vi 1), .one (vi 0)] ∧ On [R, pts c (.obj (cO ks S ((hand + 1) % (S.length : Int)) q0 q1 q2)), kP ks S, gP q0 l0, gP q1 (l1.drop 1), gP q2 l2] H') ∨ (∃ x, l2[0]? = some x ∧ nx S hand (decide (((l0.length : Int) : Int) > 0)) (decide (((l1.length : Int) : Int) > 0)) (decide (((l2.length : Int) : Int) > 0)) = (2, (hand + 1) % (S.length : Int), 0) ∧ rs = [.agg [vi x.1.1, vi x.1.2.1, vb x.2.1], .one (vi 2), .one (vi 0)] ∧ On [R, pts c (.obj (cO ks S ((hand + 1) % (S.length : Int)) q0 q1 q2)), kP ks S, gP q0 l0, gP q1 l1, gP q2 (l2.drop 1)] H')) := by
 refine rOF Try.func13 rfl ?_
 obtain ⟨n1, hn1⟩ := lX H
 refine rGz [(0, yp c), (2, yp n1)] (On.new' hn1 (.obj [vi 0, vi 0, vb false]) hs) (zL 0 (qO 40 [vi 0, vi 0, vb false] hn1)) fun H2 hs3 => ?_
 refine wS ?_
 have hcall4 : Runs pg an 31 [.one (.ptr c 0)] H2 [.one (vb true)] H2 := by
  refine runs_of ?_
  refine rOF Try.func31 rfl ?_
  refine rs0 [(0, yp c)] ?_
  refine rSz [(2, xb true)] H2 (zA 6 (qL 22 0 (.one (rff ks S)) (On.at hs3 1 rfl)) (zA 7 (Jc (H := H2) (s := NI) (t := 22) (ty := 0) (pu := true) (capd := false) (id := ks) (d := 0) (o := 0) (n := S.length) (l := S) (e := (S.length : Int)) (On.at hs3 2 rfl) (by kernel_rfl) (by first | rfl | omega | (simp only [ek_]; omega) | (simp; done) | (simp; omega))) (zL 8 (qgtrT H2 (S.length : Int) 0)))) ?_
  refine wE ?_
  exact ⟨Or.inr rfl, [.one (vb true)], (by kernel_rfl), ⟨rfl, rfl⟩⟩
 refine rSz [(0, yp c), (2, yp n1), (11, xb false)] H2 (zL 1 (qC1 hcall4)) ?_
 refine wFk ?_
 obtain ⟨n5, hn5⟩ := lX H2
 refine rGz [(0, yp c), (2, yp n1), (5, yp n5)] (On.new' hn5 (.obj [vb false, vb false, vb false]) hs3) (zL 0 (qO 68 [vb false, vb false, vb false] hn5)) fun H6 hs7 => ?_
 refine wS ?_
 refine rs0 [(0, yp c), (2, yp n1), (5, yp n5), (13, xi 0)] ?_
 refine wB ?_
 refine Wp.loopU [(0, yp c), (2, yp n1), (5, yp n5), (13, xi 0)] (some ([0, 2, 5, 13], false)) (List.length H6) (by kernel_rfl) ?_
 refine WpL.step ?_
 refine rs0 [(0, yp c), (2, yp n1), (5, yp n5), (13, xi 0), (14, xb true)] ?_
 refine wS (wTk ?_)
 refine wS (wB ?_)
 refine rs0 [(0, yp c), (2, yp n1), (5, yp n5), (6, xi 0), (13, xi 0)] ?_
 obtain ⟨_, H8, hr9, rfl, hs10⟩ := len_ok _ (H6 : HH) (On.call [3] [0, 1, 2, 4, 5, 6, 7] (by kernel_rfl) hs7) (q := q0) (room := 64) (l := l0)
 have hs10 : On [R, pts c (.obj (cO ks S hand q0 q1 q2)), kP ks S, gP q1 l1, gP q2 l2, pts n1 (.obj [vi 0, vi 0, vb false]), pts n5 (.obj [vb false, vb false, vb false]), gP q0 l0] H8 := On.flat hs10
 refine rHz [(0, yp c), (2, yp n1), (5, yp n5), (13, xi 0)] (On.put (.obj [vb (decide (((l0.length : Int) : Int) > 0)), vb false, vb false]) hs10 6 rfl) (zA 7 (qL 78 2 (.one (.ptr q0 0)) (On.at hs7 1 rfl)) (zA 8 (qC1 hr9) (zA 9 (Ja (vals := [xi (l0.length : Int), xi 0]) (H := H8) (op := .binOp .gtr 3 (.tmp 0) (.tmp 1) 3) (ty := 0) (r := xb (decide (((l0.length : Int) : Int) > 0))) (v := xb (decide (((l0.length : Int) : Int) > 0))) (by kernel_rfl) rfl) (zL 11 (qS 4 0 (.one (vb (decide (((l0.length : Int) : Int) > 0)))) (On.at hs10 6 rfl)))))) fun H11 hs12 => ?_
 refine wK ?_
 refine rRz [(0, yp c), (2, yp n1), (5, yp n5), (13, xi 1)] H11 zN ?_
 refine ⟨_, _, rfl, ?_⟩
 refine WpL.step ?_
 refine rs0 [(0, yp c), (2, yp n1), (5, yp n5), (13, xi 1), (14, xb true)] ?_
 refine wS (wTk ?_)
 refine wS (wB ?_)
 refine rs0 [(0, yp c), (2, yp n1), (5, yp n5), (6, xi 1), (13, xi 1)] ?_
 obtain ⟨_, H13, hr14, rfl, hs15⟩ := len_ok _ (H11 : HH) (On.call [3] [0, 1, 2, 4, 5, 6, 7] (by kernel_rfl) hs12) (q := q1) (room := 64) (l := l1)
 have hs15 : On [R, pts c (.obj (cO ks S hand q0 q1 q2)), kP ks S, gP q2 l2, pts n1 (.obj [vi 0, vi 0, vb false]), pts n5 (.obj [vb (decide (((l0.length : Int) : Int) > 0)), vb false, vb false]), gP q0 l0, gP q1 l1] H13 := On.flat hs15
 refine rHz [(0, yp c), (2, yp n1), (5, yp n5), (13, xi 1)] (On.put (.obj [vb (decide (((l0.length : Int) : Int) > 0)), vb (decide (((l1.length : Int) : Int) > 0)), vb false]) hs15 5 rfl) (zA 7 (qL 78 3 (.one (.ptr q1 0)) (On.at hs12 1 rfl)) (zA 8 (qC1 hr14) (zA 9 (Ja (vals := [xi (l1.length : Int), xi 0]) (H := H13) (op := .binOp .gtr 3 (.tmp 0) (.tmp 1) 3) (ty := 0) (r := xb (decide (((l1.length : Int) : Int) > 0))) (v := xb (decide (((l1.length : Int) : Int) > 0))) (by kernel_rfl) rfl) (zL 11 (qS 4 1 (.one (vb (decide (((l1.length : Int) : Int) > 0)))) (On.at hs15 5 rfl)))))) fun H16 hs17 => ?_
 refine wK ?_
 refine rRz [(0, yp c), (2, yp n1), (5, yp n5), (13, xi 2)] H16 zN ?_
 refine ⟨_, _, rfl, ?_⟩
 refine WpL.step ?_
 refine rs0 [(0, yp c), (2, yp n1), (5, yp n5), (13, xi 2), (14, xb true)] ?_
 refine wS (wTk ?_)
 refine wS (wB ?_)
 refine rs0 [(0, yp c), (2, yp n1), (5, yp n5), (6, xi 2), (13, xi 2)] ?_
 obtain ⟨_, H18, hr19, rfl, hs20⟩ := len_ok _ (H16 : HH) (On.call [3] [0, 1, 2, 4, 5, 6, 7] (by kernel_rfl) hs17) (q := q2) (room := 64) (l := l2)
 have hs20 : On [R, pts c (.obj (cO ks S hand q0 q1 q2)), kP ks S, pts n1 (.obj [vi 0, vi 0, vb false]), pts n5 (.obj [vb (decide (((l0.length : Int) : Int) > 0)), vb (decide (((l1.length : Int) : Int) > 0)), vb false]), gP q0 l0, gP q1 l1, gP q2 l2] H18 := On.flat hs20
 refine rHz [(0, yp c), (2, yp n1), (5, yp n5), (13, xi 2)] (On.put (.obj [vb (decide (((l0.length : Int) : Int) > 0)), vb (decide (((l1.length : Int) : Int) > 0)), vb (decide (((l2.length : Int) : Int) > 0))]) hs20 4 rfl) (zA 7 (qL 78 4 (.one (.ptr q2 0)) (On.at hs17 1 rfl)) (zA 8 (qC1 hr19) (zA 9 (Ja (vals := [xi (l2.length : Int), xi 0]) (H := H18) (op := .binOp .gtr 3 (.tmp 0) (.tmp 1) 3) (ty := 0) (r := xb (decide (((l2.length : Int) : Int) > 0))) (v := xb (decide (((l2.length : Int) : Int) > 0))) (by kernel_rfl) rfl) (zL 11 (qS 4 2 (.one (vb (decide (((l2.length : Int) : Int) > 0)))) (On.at hs20 4 rfl)))))) fun H21 hs22 => ?_
 refine wK ?_
 refine rRz [(0, yp c), (2, yp n1), (5, yp n5), (13, xi 3)] H21 zN ?_
 refine ⟨_, _, rfl, ?_⟩
 refine WpL.step ?_
 refine rs0 [(0, yp c), (2, yp n1), (5, yp n5), (13, xi 3), (14, xb false)] ?_
 refine wS ?_
 refine wFa ?_
 refine wX ?_
 refine Eq.mpr (if_pos rfl) ?_
 rcases nx_pick (l0 := l0) (l1 := l1) (l2 := l2) hok h0 h1 with ⟨a0, a1, a2, hn⟩ | ⟨x, hx, hn⟩ | ⟨x, hx, hn⟩ | ⟨x, hx, hn⟩
 ·
  refine rSz [(0, yp c), (2, yp n1), (4, xi 3), (7, xi 0), (8, xi 0)] H21 (zA 3 (qL 22 0 (.one (rff ks S)) (On.at hs22 1 rfl)) (zA 7 (qL 3 1 (.one (vi hand)) (On.at hs22 1 rfl)) (zA 8 (qL 68 0 (.agg [vb (decide (((l0.length : Int) : Int) > 0)), vb (decide (((l1.length : Int) : Int) > 0)), vb (decide (((l2.length : Int) : Int) > 0))]) (On.at hs22 4 rfl)) (zL 9 (Jj (H := H21) (g := 33) (vals := [.y (.one (rff ks S)), xi hand, .y (.agg [vb (decide (((l0.length : Int) : Int) > 0)), vb (decide (((l1.length : Int) : Int) > 0)), vb (decide (((l2.length : Int) : Int) > 0))])]) (xs0 := [.one (rff ks S), .one (vi hand), .agg [vb (decide (((l0.length : Int) : Int) > 0)), vb (decide (((l1.length : Int) : Int) > 0)), vb (decide (((l2.length : Int) : Int) > 0))]]) (xs1 := [.one (sv NI true false false S), .one (vi hand), .agg [vb (decide (((l0.length : Int) : Int) > 0)), vb (decide (((l1.length : Int) : Int) > 0)), vb (decide (((l2.length : Int) : Int) > 0))]]) (res := [.one (vi 0), .one (vi 0), .one (vi 3)]) (ats := #[]) (ty := 0) (v := .tup [.one (vi 0), .one (vi 0), .one (vi 3)]) [.tmp 0, .tmp 1, .tmp 2] (by kernel_rfl) (by kernel_rfl) (snap_cons (snap_rowO (H := H21) (s := NI) (id := ks) (d := 0) (o := 0) (n := S.length) (capd := false) (l := S) (m := S) (On.at hs22 2 rfl) (by first | rfl | omega | (simp only [ek_]; omega) | (simp; done) | (simp; omega)) (dt0 rfl (Nat.le_refl _))) (snap_cons (by kernel_rfl) (snap_cons (by kernel_rfl) (snap_nil)))) (by have := wnext true false false S (by omega) hand (decide (((l0.length : Int) : Int) > 0)) (decide (((l1.length : Int) : Int) > 0)) (decide (((l2.length : Int) : Int) > 0)); rw [show nx S hand (decide (((l0.length : Int) : Int) > 0)) (decide (((l1.length : Int) : Int) > 0)) (decide (((l2.length : Int) : Int) > 0)) = (0, 0, 3) from hn] at this; exact this) (by kernel_rfl)))))) ?_
  refine wS ?_
  refine rs0 [(0, yp c), (2, yp n1), (4, xi 3), (7, xi 0), (8, xi 0), (43, xb true)] ?_
  refine wTa ?_
  refine rGz [(2, yp n1), (3, xi 0), (4, xi 3)] (On.put (.obj [vi 0, vi 0, vb false]) hs22 3 rfl) (zL 2 (qS 40 0 (.agg [vi 0, vi 0, vb false]) (On.at hs22 3 rfl))) fun H23 hs24 => ?_
  refine wE ?_
  refine ⟨Or.inr rfl, [.agg [vi 0, vi 0, vb false], .one (vi 0), .one (vi 3)], (rC (On.at hs24 3 rfl)), ?_⟩
  exact .inl ⟨a0, a1, a2, hn, rfl, (On.pick [0, 1, 2, 5, 6, 7] [3, 4] (by kernel_rfl) hs24)⟩
 ·
  have hk := some_lt hx
  have hh := hand_ok (S := S) (hand := hand) (by omega)
  refine rSz [(0, yp c), (2, yp n1), (4, xi 0), (7, xi 0), (8, xi ((hand + 1) % (S.length : Int)))] H21 (zA 3 (qL 22 0 (.one (rff ks S)) (On.at hs22 1 rfl)) (zA 7 (qL 3 1 (.one (vi hand)) (On.at hs22 1 rfl)) (zA 8 (qL 68 0 (.agg [vb (decide (((l0.length : Int) : Int) > 0)), vb (decide (((l1.length : Int) : Int) > 0)), vb (decide (((l2.length : Int) : Int) > 0))]) (On.at hs22 4 rfl)) (zL 9 (Jj (H := H21) (g := 33) (vals := [.y (.one (rff ks S)), xi hand, .y (.agg [vb (decide (((l0.length : Int) : Int) > 0)), vb (decide (((l1.length : Int) : Int) > 0)), vb (decide (((l2.length : Int) : Int) > 0))])]) (xs0 := [.one (rff ks S), .one (vi hand), .agg [vb (decide (((l0.length : Int) : Int) > 0)), vb (decide (((l1.length : Int) : Int) > 0)), vb (decide (((l2.length : Int) : Int) > 0))]]) (xs1 := [.one (sv NI true false false S), .one (vi hand), .agg [vb (decide (((l0.length : Int) : Int) > 0)), vb (decide (((l1.length : Int) : Int) > 0)), vb (decide (((l2.length : Int) : Int) > 0))]]) (res := [.one (vi 0), .one (vi ((hand + 1) % (S.length : Int))), .one (vi 0)]) (ats := #[]) (ty := 0) (v := .tup [.one (vi 0), .one (vi ((hand + 1) % (S.length : Int))), .one (vi 0)]) [.tmp 0, .tmp 1, .tmp 2] (by kernel_rfl) (by kernel_rfl) (snap_cons (snap_rowO (H := H21) (s := NI) (id := ks) (d := 0) (o := 0) (n := S.length) (capd := false) (l := S) (m := S) (On.at hs22 2 rfl) (by first | rfl | omega | (simp only [ek_]; omega) | (simp; done) | (simp; omega)) (dt0 rfl (Nat.le_refl _))) (snap_cons (by kernel_rfl) (snap_cons (by kernel_rfl) (snap_nil)))) (by have := wnext true false false S (by omega) hand (decide (((l0.length : Int) : Int) > 0)) (decide (((l1.length : Int) : Int) > 0)) (decide (((l2.length : Int) : Int) > 0)); rw [show nx S hand (decide (((l0.length : Int) : Int) > 0)) (decide (((l1.length : Int) : Int) > 0)) (decide (((l2.length : Int) : Int) > 0)) = (0, ((hand + 1) % (S.length : Int)), 0) from hn] at this; exact this) (by kernel_rfl)))))) ?_
  refine wS ?_
  refine rs0 [(0, yp c), (2, yp n1), (4, xi 0), (7, xi 0), (8, xi ((hand + 1) % (S.length : Int))), (43, xb false)] ?_
  refine wFk ?_
  refine rGz [(0, yp c), (2, yp n1), (7, xi 0)] (On.put (.obj (cO ks S ((hand + 1) % (S.length : Int)) q0 q1 q2)) hs22 1 rfl) (zL 4 (qS 3 1 (.one (vi ((hand + 1) % (S.length : Int)))) (On.at hs22 1 rfl))) fun H25 hs26 => ?_
  have hlfz27 : ((l0.drop 1).length : Int) = ((l0.length : Int) - 1) := by { first | rfl | omega | (simp only [ek_]; omega) | (simp; done) | (simp; omega) }
  obtain ⟨_, H29, hr30, rfl, hs31⟩ := pop_ok _ (H25 : HH) (On.call [5] [0, 1, 2, 3, 4, 6, 7] (by kernel_rfl) hs26) (q := q0) (room := 64) (l := l0) (x := x) (by first | rfl | omega | (simp only [ek_]; omega) | (simp; done) | (simp; omega)) hx
  have hs31 : On [R, pts c (.obj (cO ks S ((hand + 1) % (S.length : Int)) q0 q1 q2)), kP ks S, pts n1 (.obj [vi 0, vi 0, vb false]), pts n5 (.obj [vb (decide (((l0.length : Int) : Int) > 0)), vb (decide (((l1.length : Int) : Int) > 0)), vb (decide (((l2.length : Int) : Int) > 0))]), gP q1 l1, gP q2 l2, gP q0 (l0.drop 1)] H29 := On.flat hs31
  refine rGz [(2, yp n1), (4, xi 0), (7, xi 0)] (On.put (.obj [vi x.1.1, vi x.1.2.1, vb x.2.1]) hs31 3 rfl) (zA 6 (qL 78 2 (.one (.ptr q0 0)) (On.at hs26 1 rfl)) (zA 7 (qC1 hr30) (zL 11 (qS 40 0 (.agg [vi x.1.1, vi x.1.2.1, vb x.2.1]) (On.at hs31 3 rfl))))) fun H32 hs33 => ?_
  refine rGz [(2, yp n1), (3, xi 0), (4, xi 0)] (On.put (.obj [vi x.1.1, vi x.1.2.1, vb x.2.1]) hs33 3 rfl) (zA 0 (qA 40 (On.at hs33 3 rfl)) (zL 3 (qS 40 0 (.agg [vi x.1.1, vi x.1.2.1, vb x.2.1]) (On.at hs33 3 rfl)))) fun H34 hs35 => ?_
  refine wE ?_
  refine ⟨Or.inr rfl, [.agg [vi x.1.1, vi x.1.2.1, vb x.2.1], .one (vi 0), .one (vi 0)], (rC (On.at hs35 3 rfl)), ?_⟩
  exact .inr (.inl ⟨x, hx, hn, rfl, (On.pick [0, 1, 2, 7, 5, 6] [3, 4] (by kernel_rfl) hs35)⟩)
 ·
  have hk := some_lt hx
  have hh := hand_ok (S := S) (hand := hand) (by omega)
  refine rSz [(0, yp c), (2, yp n1), (4, xi 0), (7, xi 1), (8, xi ((hand + 1) % (S.length : Int)))] H21 (zA 3 (qL 22 0 (.one (rff ks S)) (On.at hs22 1 rfl)) (zA 7 (qL 3 1 (.one (vi hand)) (On.at hs22 1 rfl)) (zA 8 (qL 68 0 (.agg [vb (decide (((l0.length : Int) : Int) > 0)), vb (decide (((l1.length : Int) : Int) > 0)), vb (decide (((l2.length : Int) : Int) > 0))]) (On.at hs22 4 rfl)) (zL 9 (Jj (H := H21) (g := 33) (vals := [.y (.one (rff ks S)), xi hand, .y (.agg [vb (decide (((l0.length : Int) : Int) > 0)), vb (decide (((l1.length : Int) : Int) > 0)), vb (decide (((l2.length : Int) : Int) > 0))])]) (xs0 := [.one (rff ks S), .one (vi hand), .agg [vb (decide (((l0.length : Int) : Int) > 0)), vb (decide (((l1.length : Int) : Int) > 0)), vb (decide (((l2.length : Int) : Int) > 0))]]) (xs1 := [.one (sv NI true false false S), .one (vi hand), .agg [vb (decide (((l0.length : Int) : Int) > 0)), vb (decide (((l1.length : Int) : Int) > 0)), vb (decide (((l2.length : Int) : Int) > 0))]]) (res := [.one (vi 1), .one (vi ((hand + 1) % (S.length : Int))), .one (vi 0)]) (ats := #[]) (ty := 0) (v := .tup [.one (vi 1), .one (vi ((hand + 1) % (S.length : Int))), .one (vi 0)]) [.tmp 0, .tmp 1, .tmp 2] (by kernel_rfl) (by kernel_rfl) (snap_cons (snap_rowO (H := H21) (s := NI) (id := ks) (d := 0) (o := 0) (n := S.length) (capd := false) (l := S) (m := S) (On.at hs22 2 rfl) (by first | rfl | omega | (simp only [ek_]; omega) | (simp; done) | (simp; omega)) (dt0 rfl (Nat.le_refl _))) (snap_cons (by kernel_rfl) (snap_cons (by kernel_rfl) (snap_nil)))) (by have := wnext true false false S (by omega) hand (decide (((l0.length : Int) : Int) > 0)) (decide (((l1.length : Int) : Int) > 0)) (decide (((l2.length : Int) : Int) > 0)); rw [show nx S hand (decide (((l0.length : Int) : Int) > 0)) (decide (((l1.length : Int) : Int) > 0)) (decide (((l2.length : Int) : Int) > 0)) = (1, ((hand + 1) % (S.length : Int)), 0) from hn] at this; exact this) (by kernel_rfl)))))) ?_
  refine wS ?_
  refine rs0 [(0, yp c), (2, yp n1), (4, xi 0), (7, xi 1), (8, xi ((hand + 1) % (S.length : Int))), (43, xb false)] ?_
  refine wFk ?_
  refine rGz [(0, yp c), (2, yp n1), (7, xi 1)] (On.put (.obj (cO ks S ((hand + 1) % (S.length : Int)) q0 q1 q2)) hs22 1 rfl) (zL 4 (qS 3 1 (.one (vi ((hand + 1) % (S.length : Int)))) (On.at hs22 1 rfl))) fun H36 hs37 => ?_
  have hlfz38 : ((l1.drop 1).length : Int) = ((l1.length : Int) - 1) := by { first | rfl | omega | (simp only [ek_]; omega) | (simp; done) | (simp; omega) }
  obtain ⟨_, H40, hr41, rfl, hs42⟩ := pop_ok _ (H36 : HH) (On.call [6] [0, 1, 2, 3, 4, 5, 7] (by kernel_rfl) hs37) (q := q1) (room := 64) (l := l1) (x := x) (by first | rfl | omega | (simp only [ek_]; omega) | (simp; done) | (simp; omega)) hx
  have hs42 : On [R, pts c (.obj (cO ks S ((hand + 1) % (S.length : Int)) q0 q1 q2)), kP ks S, pts n1 (.obj [vi 0, vi 0, vb false]), pts n5 (.obj [vb (decide (((l0.length : Int) : Int) > 0)), vb (decide (((l1.length : Int) : Int) > 0)), vb (decide (((l2.length : Int) : Int) > 0))]), gP q0 l0, gP q2 l2, gP q1 (l1.drop 1)] H40 := On.flat hs42
  refine rGz [(2, yp n1), (4, xi 0), (7, xi 1)] (On.put (.obj [vi x.1.1, vi x.1.2.1, vb x.2.1]) hs42 3 rfl) (zA 6 (qL 78 3 (.one (.ptr q1 0)) (On.at hs37 1 rfl)) (zA 7 (qC1 hr41) (zL 11 (qS 40 0 (.agg [vi x.1.1, vi x.1.2.1, vb x.2.1]) (On.at hs42 3 rfl))))) fun H43 hs44 => ?_
  refine rGz [(2, yp n1), (3, xi 1), (4, xi 0)] (On.put (.obj [vi x.1.1, vi x.1.2.1, vb x.2.1]) hs44 3 rfl) (zA 0 (qA 40 (On.at hs44 3 rfl)) (zL 3 (qS 40 0 (.agg [vi x.1.1, vi x.1.2.1, vb x.2.1]) (On.at hs44 3 rfl)))) fun H45 hs46 => ?_
  refine wE ?_
  refine ⟨Or.inr rfl, [.agg [vi x.1.1, vi x.1.2.1, vb x.2.1], .one (vi 1), .one (vi 0)], (rC (On.at hs46 3 rfl)), ?_⟩
  exact .inr (.inr (.inl ⟨x, hx, hn, rfl, (On.pick [0, 1, 2, 5, 7, 6] [3, 4] (by kernel_rfl) hs46)⟩))
 have hk := some_lt hx
 have hh := hand_ok (S := S) (hand := hand) (by omega)
 refine rSz [(0, yp c), (2, yp n1), (4, xi 0), (7, xi 2), (8, xi ((hand + 1) % (S.length : Int)))] H21 (zA 3 (qL 22 0 (.one (rff ks S)) (On.at hs22 1 rfl)) (zA 7 (qL 3 1 (.one (vi hand)) (On.at hs22 1 rfl)) (zA 8 (qL 68 0 (.agg [vb (decide (((l0.length : Int) : Int) > 0)), vb (decide (((l1.length : Int) : Int) > 0)), vb (decide (((l2.length : Int) : Int) > 0))]) (On.at hs22 4 rfl)) (zL 9 (Jj (H := H21) (g := 33) (vals := [.y (.one (rff ks S)), xi hand, .y (.agg [vb (decide (((l0.length : Int) : Int) > 0)), vb (decide (((l1.length : Int) : Int) > 0)), vb (decide (((l2.length : Int) : Int) > 0))])]) (xs0 := [.one (rff ks S), .one (vi hand), .agg [vb (decide (((l0.length : Int) : Int) > 0)), vb (decide (((l1.length : Int) : Int) > 0)), vb (decide (((l2.length : Int) : Int) > 0))]]) (xs1 := [.one (sv NI true false false S), .one (vi hand), .agg [vb (decide (((l0.length : Int) : Int) > 0)), vb (decide (((l1.length : Int) : Int) > 0)), vb (decide (((l2.length : Int) : Int) > 0))]]) (res := [.one (vi 2), .one (vi ((hand + 1) % (S.length : Int))), .one (vi 0)]) (ats := #[]) (ty := 0) (v := .tup [.one (vi 2), .one (vi ((hand + 1) % (S.length : Int))), .one (vi 0)]) [.tmp 0, .tmp 1, .tmp 2] (by kernel_rfl) (by kernel_rfl) (snap_cons (snap_rowO (H := H21) (s := NI) (id := ks) (d := 0) (o := 0) (n := S.length) (capd := false) (l := S) (m := S) (On.at hs22 2 rfl) (by first | rfl | omega | (simp only [ek_]; omega) | (simp; done) | (simp; omega)) (dt0 rfl (Nat.le_refl _))) (snap_cons (by kernel_rfl) (snap_cons (by kernel_rfl) (snap_nil)))) (by have := wnext true false false S (by omega) hand (decide (((l0.length : Int) : Int) > 0)) (decide (((l1.length : Int) : Int) > 0)) (decide (((l2.length : Int) : Int) > 0)); rw [show nx S hand (decide (((l0.length : Int) : Int) > 0)) (decide (((l1.length : Int) : Int) > 0)) (decide (((l2.length : Int) : Int) > 0)) = (2, ((hand + 1) % (S.length : Int)), 0) from hn] at this; exact this) (by kernel_rfl)))))) ?_
 refine wS ?_
 refine rs0 [(0, yp c), (2, yp n1), (4, xi 0), (7, xi 2), (8, xi ((hand + 1) % (S.length : Int))), (43, xb false)] ?_
 refine wFk ?_
 refine rGz [(0, yp c), (2, yp n1), (7, xi 2)] (On.put (.obj (cO ks S ((hand + 1) % (S.length : Int)) q0 q1 q2)) hs22 1 rfl) (zL 4 (qS 3 1 (.one (vi ((hand + 1) % (S.length : Int)))) (On.at hs22 1 rfl))) fun H47 hs48 => ?_
 have hlfz49 : ((l2.drop 1).length : Int) = ((l2.length : Int) - 1) := by { first | rfl | omega | (simp only [ek_]; omega) | (simp; done) | (simp; omega) }
 obtain ⟨_, H51, hr52, rfl, hs53⟩ := pop_ok _ (H47 : HH) (On.call [7] [0, 1, 2, 3, 4, 5, 6] (by kernel_rfl) hs48) (q := q2) (room := 64) (l := l2) (x := x) (by first | rfl | omega | (simp only [ek_]; omega) | (simp; done) | (simp; omega)) hx
 have hs53 : On [R, pts c (.obj (cO ks S ((hand + 1) % (S.length : Int)) q0 q1 q2)), kP ks S, pts n1 (.obj [vi 0, vi 0, vb false]), pts n5 (.obj [vb (decide (((l0.length : Int) : Int) > 0)), vb (decide (((l1.length : Int) : Int) > 0)), vb (decide (((l2.length : Int) : Int) > 0))]), gP q0 l0, gP q1 l1, gP q2 (l2.drop 1)] H51 := On.flat hs53
 refine rGz [(2, yp n1), (4, xi 0), (7, xi 2)] (On.put (.obj [vi x.1.1, vi x.1.2.1, vb x.2.1]) hs53 3 rfl) (zA 6 (qL 78 4 (.one (.ptr q2 0)) (On.at hs48 1 rfl)) (zA 7 (qC1 hr52) (zL 11 (qS 40 0 (.agg [vi x.1.1, vi x.1.2.1, vb x.2.1]) (On.at hs53 3 rfl))))) fun H54 hs55 => ?_
 refine rGz [(2, yp n1), (3, xi 2), (4, xi 0)] (On.put (.obj [vi x.1.1, vi x.1.2.1, vb x.2.1]) hs55 3 rfl) (zA 0 (qA 40 (On.at hs55 3 rfl)) (zL 3 (qS 40 0 (.agg [vi x.1.1, vi x.1.2.1, vb x.2.1]) (On.at hs55 3 rfl)))) fun H56 hs57 => ?_
 refine wE ?_
 refine ⟨Or.inr rfl, [.agg [vi x.1.1, vi x.1.2.1, vb x.2.1], .one (vi 2), .one (vi 0)], (rC (On.at hs57 3 rfl)), ?_⟩
 exact .inr (.inr (.inr (⟨x, hx, hn, rfl, (On.pick [0, 1, 2, 5, 6, 7] [3, 4] (by kernel_rfl) hs57)⟩)))
end Go.Proofs.Ytjdnhbnpdbpgbaa
