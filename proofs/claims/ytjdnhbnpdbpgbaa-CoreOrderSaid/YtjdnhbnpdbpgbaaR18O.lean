/-
  Core: who is picked, whoever waits; who is pushed. (Printed by sx/r18.py.)
-/
import Derived.Test.YtjdnhbnpdbpgbaaR18F
namespace Go.Proofs.Ytjdnhbnpdbpgbaa
open Go.Lg
set_option linter.unusedVariables false
set_option maxRecDepth 100000
set_option maxHeartbeats 8000000
set_option linter.unusedSimpArgs false
def Code.dropS : Nat → Code → Code
  | n + 1, .seq _ b => Code.dropS n b
  | _, c => c
/-- Where ways meet: what holds there, proved once ahead. -/
theorem Wp.meet {P : Program} {A : Ann} {f : FuncId} {c : Code} {e : Env} {H : Go.Lg.Heap} {Q : Ex → Env → Go.Lg.Heap → Prop} (n : Nat) {T : Type} (envT : T → Env) (heapT : T → Go.Lg.Heap) (I : T → Prop)
    (h2 : ∀ t, I t → Wp P A f (Code.dropS n c) (envT t) (heapT t) Q) (h1 : (∀ t, I t → Wp P A f (Code.dropS n c) (envT t) (heapT t) Q) → Wp P A f c e H Q) : Wp P A f c e H Q := h1 h2
theorem nx_pick {S : List Int} {hand : Int} {l0 l1 l2 : List EN.T} (hok : okW S = true) (h0 : 0 ≤ hand) (h1 : hand < (S.length : Int)) :
    (l0.length = 0 ∧ l1.length = 0 ∧ l2.length = 0 ∧ nx S hand (decide (((l0.length : Int) : Int) > 0)) (decide (((l1.length : Int) : Int) > 0)) (decide (((l2.length : Int) : Int) > 0)) = (0, 0, 3)) ∨
    (∃ x, l0[0]? = some x ∧ nx S hand (decide (((l0.length : Int) : Int) > 0)) (decide (((l1.length : Int) : Int) > 0)) (decide (((l2.length : Int) : Int) > 0)) = (0, (hand + 1) % (S.length : Int), 0)) ∨ (∃ x, l1[0]? = some x ∧ nx S hand (decide (((l0.length : Int) : Int) > 0)) (decide (((l1.length : Int) : Int) > 0)) (decide (((l2.length : Int) : Int) > 0)) = (1, (hand + 1) % (S.length : Int), 0)) ∨ (∃ x, l2[0]? = some x ∧ nx S hand (decide (((l0.length : Int) : Int) > 0)) (decide (((l1.length : Int) : Int) > 0)) (decide (((l2.length : Int) : Int) > 0)) = (2, (hand + 1) % (S.length : Int), 0)) := by
  have hx : at_ S hand % 3 = 0 ∨ at_ S hand % 3 = 1 ∨ at_ S hand % 3 = 2 := by omega
  have e1 : (at_ S hand + 1) % 3 = (at_ S hand % 3 + 1) % 3 := by omega
  have e2 : (at_ S hand + 2) % 3 = (at_ S hand % 3 + 2) % 3 := by omega
  have g : ∀ l : List EN.T, (l.length = 0 ∧ decide (((l.length : Int) : Int) > 0) = false) ∨ ((∃ x, l[0]? = some x) ∧ decide (((l.length : Int) : Int) > 0) = true) := fun l => by
    cases l with
    | nil => exact .inl ⟨rfl, rfl⟩
    | cons a l => exact .inr ⟨⟨a, rfl⟩, decide_eq_true (by show (((l.length + 1 : Nat) : Int)) > 0; omega)⟩
  have hh : ¬ (hand < 0 ∨ (S.length : Int) ≤ hand) := by omega
  unfold nx
  rw [if_neg (by rw [hok]; simp), if_neg hh]
  simp only [e1, e2]
  rcases g l0 with ⟨a0, b0⟩ | ⟨a0, b0⟩ <;> rcases g l1 with ⟨a1, b1⟩ | ⟨a1, b1⟩ <;> rcases g l2 with ⟨a2, b2⟩ | ⟨a2, b2⟩ <;> rcases hx with hx | hx | hx <;> rw [hx, b0, b1, b2] <;>
    first
    | exact .inl ⟨a0, a1, a2, rfl⟩
    | exact .inr (.inl (a0.elim fun x hx => ⟨x, hx, rfl⟩))
    | exact .inr (.inr (.inl (a1.elim fun x hx => ⟨x, hx, rfl⟩)))
    | exact .inr (.inr (.inr (a2.elim fun x hx => ⟨x, hx, rfl⟩)))
theorem hand_ok {S : List Int} {hand : Int} (hS : 3 ≤ (S.length : Int)) : 0 ≤ (hand + 1) % (S.length : Int) ∧ (hand + 1) % (S.length : Int) < (S.length : Int) :=
  ⟨Int.emod_nonneg _ (by omega), Int.emod_lt_of_pos _ (by omega)⟩
theorem some_lt {α : Type} {l : List α} {x : α} (h : l[0]? = some x) : 0 < l.length := by
  cases l with
  | nil => cases h
  | cons _ _ => exact Nat.succ_pos _
theorem pids_snoc (l : List EN.T) (p : PN.T) (b : Bool) : pids (l ++ [(p, (b, ()))]) = pids l ++ [p] := by simp
theorem pids_drop (l : List EN.T) (n : Nat) : pids (l.drop n) = (pids l).drop n := List.map_drop
theorem pids_get {l : List EN.T} {x : EN.T} (h : l[0]? = some x) : (pids l)[0]? = some x.1 := by simp [h]
theorem pids_len (l : List EN.T) : ((pids l).length : Int) = l.length := by simp
theorem pick_all (R : HP) (H : Go.Lg.Heap) (c ks q0 q1 q2 : Nat) (S : List Int) (hand : Int) (l0 l1 l2 : List EN.T) (hs : On [R, pts c (.obj [rowC ks 0 S.length 0 S.length false, vi hand, .ptr q0 0, .ptr q1 0, .ptr q2 0]), pts ks (rowO NI true 0 S), ringP EN q0 64 l0, ringP EN q1 64 l1, ringP EN q2 64 l2] H) (hS : 3 ≤ (S.length : Int)) (hT : (S.length : Int) ≤ 64) (b0 : (l0.length : Int) ≤ 64) (b1 : (l1.length : Int) ≤ 64) (b2 : (l2.length : Int) ≤ 64) (hok : okW S = true) (h0 : 0 ≤ hand) (h1 : hand < (S.length : Int)) : ∃ rs H', Runs pg an 13 [.one (.ptr c 0)] H rs H' ∧ ((l0.length = 0 ∧ l1.length = 0 ∧ l2.length = 0 ∧ rs = [.agg [vi 0, vi 0, vb false], .one (vi 0), .one (vi 3)] ∧ On [R, pts c (.obj [rowC ks 0 S.length 0 S.length false, vi hand, .ptr q0 0, .ptr q1 0, .ptr q2 0]), pts ks (rowO NI true 0 S), ringP EN q0 64 l0, ringP EN q1 64 l1, ringP EN q2 64 l2] H') ∨ (∃ x, l0[0]? = some x ∧ rs = [.agg [vi x.1.1, vi x.1.2.1, vb x.2.1], .one (vi 0), .one (vi 0)] ∧ On [R, pts c (.obj [rowC ks 0 S.length 0 S.length false, vi ((hand + 1) % (S.length : Int)), .ptr q0 0, .ptr q1 0, .ptr q2 0]), pts ks (rowO NI true 0 S), ringP EN q0 64 (l0.drop 1), ringP EN q1 64 l1, ringP EN q2 64 l2] H') ∨ (∃ x, l1[0]? = some x ∧ rs = [.agg [vi x.1.1, vi x.1.2.1, vb x.2.1], .one (vi 1), .one (vi 0)] ∧ On [R, pts c (.obj [rowC ks 0 S.length 0 S.length false, vi ((hand + 1) % (S.length : Int)), .ptr q0 0, .ptr q1 0, .ptr q2 0]), pts ks (rowO NI true 0 S), ringP EN q0 64 l0, ringP EN q1 64 (l1.drop 1), ringP EN q2 64 l2] H') ∨ (∃ x, l2[0]? = some x ∧ rs = [.agg [vi x.1.1, vi x.1.2.1, vb x.2.1], .one (vi 2), .one (vi 0)] ∧ On [R, pts c (.obj [rowC ks 0 S.length 0 S.length false, vi ((hand + 1) % (S.length : Int)), .ptr q0 0, .ptr q1 0, .ptr q2 0]), pts ks (rowO NI true 0 S), ringP EN q0 64 l0, ringP EN q1 64 l1, ringP EN q2 64 (l2.drop 1)] H')) := by
  rcases nx_pick (l0 := l0) (l1 := l1) (l2 := l2) hok h0 h1 with ⟨a0, a1, a2, hn⟩ | ⟨x, hx, hn⟩ | ⟨x, hx, hn⟩ | ⟨x, hx, hn⟩
  · obtain ⟨rs, H', e1, e2⟩ := pick_none R H c ks q0 q1 q2 S hand l0 l1 l2 hs hS hT b0 b1 b2 a0 a1 a2 hn
    exact ⟨rs, H', e1, .inl ⟨a0, a1, a2, e2⟩⟩
  · obtain ⟨rs, H', e1, e2⟩ := pick_0 R H c ks q0 q1 q2 S hand l0 l1 l2 _ x hs hS hT b0 b1 b2 hx (some_lt hx) hn
    exact ⟨rs, H', e1, .inr (.inl ⟨x, hx, e2⟩)⟩
  · obtain ⟨rs, H', e1, e2⟩ := pick_1 R H c ks q0 q1 q2 S hand l0 l1 l2 _ x hs hS hT b0 b1 b2 hx (some_lt hx) hn
    exact ⟨rs, H', e1, .inr (.inr (.inl ⟨x, hx, e2⟩))⟩
  · obtain ⟨rs, H', e1, e2⟩ := pick_2 R H c ks q0 q1 q2 S hand l0 l1 l2 _ x hs hS hT b0 b1 b2 hx (some_lt hx) hn
    exact ⟨rs, H', e1, .inr (.inr (.inr ⟨x, hx, e2⟩))⟩
theorem stands_all (R : HP) (H : Go.Lg.Heap) (c ks q0 q1 q2 : Nat) (S : List Int) (hand : Int) (l0 l1 l2 : List EN.T) (p : PN.T) (hs : On [R, pts c (.obj [rowC ks 0 S.length 0 S.length false, vi hand, .ptr q0 0, .ptr q1 0, .ptr q2 0]), pts ks (rowO NI true 0 S), ringP EN q0 64 l0, ringP EN q1 64 l1, ringP EN q2 64 l2] H) (hS : 3 ≤ (S.length : Int)) (hT : (S.length : Int) ≤ 64) (b0 : (l0.length : Int) ≤ 64) (b1 : (l1.length : Int) ≤ 64) (b2 : (l2.length : Int) ≤ 64) : ∃ rs H', Runs pg an 41 [.one (.ptr c 0), .agg [vi p.1, vi p.2.1]] H rs H' ∧ (((0 ≤ posI p l0 ∨ 0 ≤ posI p l1 ∨ 0 ≤ posI p l2) ∧ rs = [.one (vb true)] ∧ On [R, pts c (.obj [rowC ks 0 S.length 0 S.length false, vi hand, .ptr q0 0, .ptr q1 0, .ptr q2 0]), pts ks (rowO NI true 0 S), ringP EN q0 64 l0, ringP EN q1 64 l1, ringP EN q2 64 l2] H') ∨ (posI p l0 < 0 ∧ posI p l1 < 0 ∧ posI p l2 < 0 ∧ rs = [.one (vb false)] ∧ On [R, pts c (.obj [rowC ks 0 S.length 0 S.length false, vi hand, .ptr q0 0, .ptr q1 0, .ptr q2 0]), pts ks (rowO NI true 0 S), ringP EN q0 64 l0, ringP EN q1 64 l1, ringP EN q2 64 l2] H')) := by
 refine Runs.of (fn := Try.f41) Try.func41 rfl (by kernel_rfl) [(0, .y (.one (.ptr c 0))), (1, .y (.agg [vi p.1, vi p.2.1]))] (by kernel_rfl) ?_
 obtain ⟨n1, hn1⟩ : ∃ n, n = List.length (H : Go.Lg.Heap) := ⟨_, rfl⟩
 refine Wp.regionSeq [(0, .y (.one (.ptr n1 0)), (H ++ [.obj [vi p.1, vi p.2.1]]))] [(0, .y (.one (.ptr c 0))), (3, .y (.one (.ptr n1 0)))] (H ++ [.obj [vi p.1, vi p.2.1]])
   (cast (And.intro (ob_box (P := pg) (A := an) (H := H) (t := 38) (ty := 0) (n := n1) (v := .agg [vi p.1, vi p.2.1]) (cs := [vi p.1, vi p.2.1]) hn1 (by kernel_rfl) (by kernel_rfl) (by kernel_rfl)) trivial) (by kernel_rfl)) (by kernel_rfl) ?_
 refine Wp.gen (cs := [R, pts c (.obj [rowC ks 0 S.length 0 S.length false, vi hand, .ptr q0 0, .ptr q1 0, .ptr q2 0]), pts ks (rowO NI true 0 S), ringP EN q0 64 l0, ringP EN q1 64 l1, ringP EN q2 64 l2, pts n1 (.obj [vi p.1, vi p.2.1])]) (On.new' hn1 (.obj [vi p.1, vi p.2.1]) hs) ?_
 intro H2 hs3
 have hz4 := posI_bd p l0
 have hz8 := posI_bd p l1
 have hz12 := posI_bd p l2
 by_cases c16 : (0 : Int) ≤ (posI p l0)
 ·
  obtain ⟨_, H20, hr21, rfl, hs22⟩ := find_0 _ (H2 : Go.Lg.Heap) (On.call [1, 2, 3, 4, 5] [0, 6] (by kernel_rfl) hs3) (c := c) (ks := ks) (q0 := q0) (q1 := q1) (q2 := q2) (S := S) (hand := hand) (l0 := l0) (l1 := l1) (l2 := l2) (p := p) (by omega) (by omega) (by first | rfl | omega | (simp only [List.length_nil]; omega) | (simp; done) | (simp; omega)) (by first | rfl | omega | (simp only [List.length_nil]; omega) | (simp; done) | (simp; omega)) (by first | rfl | omega | (simp only [List.length_nil]; omega) | (simp; done) | (simp; omega)) (by omega)
  have hs22 : On [R, pts n1 (.obj [vi p.1, vi p.2.1]), pts c (.obj [rowC ks 0 S.length 0 S.length false, vi hand, .ptr q0 0, .ptr q1 0, .ptr q2 0]), pts ks (rowO NI true 0 S), ringP EN q0 64 l0, ringP EN q1 64 l1, ringP EN q2 64 l2] H20 := On.flat hs22
  refine Wp.regionSeq [(1, .y (.agg [vi p.1, vi p.2.1]), H2), (2, .tup [.one (vi 0), .one (vi (posI p l0)), .one (vi 0)], H20)] [(7, xi 0)] H20
    (cast (And.intro (ob_load_ptr (P := pg) (A := an) (H := H2) (t := 38) (ty := 0) (id := n1) (off := 0) (n := 2) (cs := [vi p.1, vi p.2.1]) (cs' := [vi p.1, vi p.2.1]) (v := .agg [vi p.1, vi p.2.1]) (On.at hs3 6 rfl) (by kernel_rfl) (by kernel_rfl) (by kernel_rfl) (by kernel_rfl)) (And.intro (ob_call (P := pg) (A := an) (H := H2) (g := 38) (vals := [.y (.one (.ptr c 0)), .y (.agg [vi p.1, vi p.2.1])]) (xs0 := [.one (.ptr c 0), .agg [vi p.1, vi p.2.1]]) (res := [.one (vi 0), .one (vi (posI p l0)), .one (vi 0)]) (ats := #[]) (ty := 0) (v := .tup [.one (vi 0), .one (vi (posI p l0)), .one (vi 0)]) (H' := H20) [.tmp 0, .tmp 1] (by kernel_rfl) (by kernel_rfl) hr21 (by kernel_rfl)) trivial)) (by kernel_rfl)) (by kernel_rfl) ?_
  refine Wp.gen (cs := [R, pts n1 (.obj [vi p.1, vi p.2.1]), pts c (.obj [rowC ks 0 S.length 0 S.length false, vi hand, .ptr q0 0, .ptr q1 0, .ptr q2 0]), pts ks (rowO NI true 0 S), ringP EN q0 64 l0, ringP EN q1 64 l1, ringP EN q2 64 l2]) hs22 ?_
  intro H23 hs24
  refine Wp.regionSeq [] [(4, xb true)] H23
    (cast trivial (by kernel_rfl)) (by kernel_rfl) ?_
  refine Wp.ret ?_
  refine ⟨Or.inr rfl, [.one (vb true)], (by kernel_rfl), ?_⟩
  exact .inl ⟨by omega, rfl, (On.pick [0, 2, 3, 4, 5, 6] [1] (by kernel_rfl) hs24)⟩
 ·
  by_cases c28 : (0 : Int) ≤ (posI p l1)
  ·
   obtain ⟨_, H32, hr33, rfl, hs34⟩ := find_1 _ (H2 : Go.Lg.Heap) (On.call [1, 2, 3, 4, 5] [0, 6] (by kernel_rfl) hs3) (c := c) (ks := ks) (q0 := q0) (q1 := q1) (q2 := q2) (S := S) (hand := hand) (l0 := l0) (l1 := l1) (l2 := l2) (p := p) (by omega) (by omega) (by first | rfl | omega | (simp only [List.length_nil]; omega) | (simp; done) | (simp; omega)) (by first | rfl | omega | (simp only [List.length_nil]; omega) | (simp; done) | (simp; omega)) (by first | rfl | omega | (simp only [List.length_nil]; omega) | (simp; done) | (simp; omega)) (by omega) (by omega)
   have hs34 : On [R, pts n1 (.obj [vi p.1, vi p.2.1]), pts c (.obj [rowC ks 0 S.length 0 S.length false, vi hand, .ptr q0 0, .ptr q1 0, .ptr q2 0]), pts ks (rowO NI true 0 S), ringP EN q0 64 l0, ringP EN q1 64 l1, ringP EN q2 64 l2] H32 := On.flat hs34
   refine Wp.regionSeq [(1, .y (.agg [vi p.1, vi p.2.1]), H2), (2, .tup [.one (vi 1), .one (vi (posI p l1)), .one (vi 0)], H32)] [(7, xi 0)] H32
     (cast (And.intro (ob_load_ptr (P := pg) (A := an) (H := H2) (t := 38) (ty := 0) (id := n1) (off := 0) (n := 2) (cs := [vi p.1, vi p.2.1]) (cs' := [vi p.1, vi p.2.1]) (v := .agg [vi p.1, vi p.2.1]) (On.at hs3 6 rfl) (by kernel_rfl) (by kernel_rfl) (by kernel_rfl) (by kernel_rfl)) (And.intro (ob_call (P := pg) (A := an) (H := H2) (g := 38) (vals := [.y (.one (.ptr c 0)), .y (.agg [vi p.1, vi p.2.1])]) (xs0 := [.one (.ptr c 0), .agg [vi p.1, vi p.2.1]]) (res := [.one (vi 1), .one (vi (posI p l1)), .one (vi 0)]) (ats := #[]) (ty := 0) (v := .tup [.one (vi 1), .one (vi (posI p l1)), .one (vi 0)]) (H' := H32) [.tmp 0, .tmp 1] (by kernel_rfl) (by kernel_rfl) hr33 (by kernel_rfl)) trivial)) (by kernel_rfl)) (by kernel_rfl) ?_
   refine Wp.gen (cs := [R, pts n1 (.obj [vi p.1, vi p.2.1]), pts c (.obj [rowC ks 0 S.length 0 S.length false, vi hand, .ptr q0 0, .ptr q1 0, .ptr q2 0]), pts ks (rowO NI true 0 S), ringP EN q0 64 l0, ringP EN q1 64 l1, ringP EN q2 64 l2]) hs34 ?_
   intro H35 hs36
   refine Wp.regionSeq [] [(4, xb true)] H35
     (cast trivial (by kernel_rfl)) (by kernel_rfl) ?_
   refine Wp.ret ?_
   refine ⟨Or.inr rfl, [.one (vb true)], (by kernel_rfl), ?_⟩
   exact .inl ⟨by omega, rfl, (On.pick [0, 2, 3, 4, 5, 6] [1] (by kernel_rfl) hs36)⟩
  ·
   by_cases c40 : (0 : Int) ≤ (posI p l2)
   ·
    obtain ⟨_, H44, hr45, rfl, hs46⟩ := find_2 _ (H2 : Go.Lg.Heap) (On.call [1, 2, 3, 4, 5] [0, 6] (by kernel_rfl) hs3) (c := c) (ks := ks) (q0 := q0) (q1 := q1) (q2 := q2) (S := S) (hand := hand) (l0 := l0) (l1 := l1) (l2 := l2) (p := p) (by omega) (by omega) (by first | rfl | omega | (simp only [List.length_nil]; omega) | (simp; done) | (simp; omega)) (by first | rfl | omega | (simp only [List.length_nil]; omega) | (simp; done) | (simp; omega)) (by first | rfl | omega | (simp only [List.length_nil]; omega) | (simp; done) | (simp; omega)) (by omega) (by omega) (by omega)
    have hs46 : On [R, pts n1 (.obj [vi p.1, vi p.2.1]), pts c (.obj [rowC ks 0 S.length 0 S.length false, vi hand, .ptr q0 0, .ptr q1 0, .ptr q2 0]), pts ks (rowO NI true 0 S), ringP EN q0 64 l0, ringP EN q1 64 l1, ringP EN q2 64 l2] H44 := On.flat hs46
    refine Wp.regionSeq [(1, .y (.agg [vi p.1, vi p.2.1]), H2), (2, .tup [.one (vi 2), .one (vi (posI p l2)), .one (vi 0)], H44)] [(7, xi 0)] H44
      (cast (And.intro (ob_load_ptr (P := pg) (A := an) (H := H2) (t := 38) (ty := 0) (id := n1) (off := 0) (n := 2) (cs := [vi p.1, vi p.2.1]) (cs' := [vi p.1, vi p.2.1]) (v := .agg [vi p.1, vi p.2.1]) (On.at hs3 6 rfl) (by kernel_rfl) (by kernel_rfl) (by kernel_rfl) (by kernel_rfl)) (And.intro (ob_call (P := pg) (A := an) (H := H2) (g := 38) (vals := [.y (.one (.ptr c 0)), .y (.agg [vi p.1, vi p.2.1])]) (xs0 := [.one (.ptr c 0), .agg [vi p.1, vi p.2.1]]) (res := [.one (vi 2), .one (vi (posI p l2)), .one (vi 0)]) (ats := #[]) (ty := 0) (v := .tup [.one (vi 2), .one (vi (posI p l2)), .one (vi 0)]) (H' := H44) [.tmp 0, .tmp 1] (by kernel_rfl) (by kernel_rfl) hr45 (by kernel_rfl)) trivial)) (by kernel_rfl)) (by kernel_rfl) ?_
    refine Wp.gen (cs := [R, pts n1 (.obj [vi p.1, vi p.2.1]), pts c (.obj [rowC ks 0 S.length 0 S.length false, vi hand, .ptr q0 0, .ptr q1 0, .ptr q2 0]), pts ks (rowO NI true 0 S), ringP EN q0 64 l0, ringP EN q1 64 l1, ringP EN q2 64 l2]) hs46 ?_
    intro H47 hs48
    refine Wp.regionSeq [] [(4, xb true)] H47
      (cast trivial (by kernel_rfl)) (by kernel_rfl) ?_
    refine Wp.ret ?_
    refine ⟨Or.inr rfl, [.one (vb true)], (by kernel_rfl), ?_⟩
    exact .inl ⟨by omega, rfl, (On.pick [0, 2, 3, 4, 5, 6] [1] (by kernel_rfl) hs48)⟩
   ·
    obtain ⟨_, H52, hr53, rfl, hs54⟩ := find_3 _ (H2 : Go.Lg.Heap) (On.call [1, 2, 3, 4, 5] [0, 6] (by kernel_rfl) hs3) (c := c) (ks := ks) (q0 := q0) (q1 := q1) (q2 := q2) (S := S) (hand := hand) (l0 := l0) (l1 := l1) (l2 := l2) (p := p) (by omega) (by omega) (by first | rfl | omega | (simp only [List.length_nil]; omega) | (simp; done) | (simp; omega)) (by first | rfl | omega | (simp only [List.length_nil]; omega) | (simp; done) | (simp; omega)) (by first | rfl | omega | (simp only [List.length_nil]; omega) | (simp; done) | (simp; omega)) (by omega) (by omega) (by omega)
    have hs54 : On [R, pts n1 (.obj [vi p.1, vi p.2.1]), pts c (.obj [rowC ks 0 S.length 0 S.length false, vi hand, .ptr q0 0, .ptr q1 0, .ptr q2 0]), pts ks (rowO NI true 0 S), ringP EN q0 64 l0, ringP EN q1 64 l1, ringP EN q2 64 l2] H52 := On.flat hs54
    refine Wp.regionSeq [(1, .y (.agg [vi p.1, vi p.2.1]), H2), (2, .tup [.one (vi 0), .one (vi 0), .one (vi 3)], H52)] [(7, xi 3)] H52
      (cast (And.intro (ob_load_ptr (P := pg) (A := an) (H := H2) (t := 38) (ty := 0) (id := n1) (off := 0) (n := 2) (cs := [vi p.1, vi p.2.1]) (cs' := [vi p.1, vi p.2.1]) (v := .agg [vi p.1, vi p.2.1]) (On.at hs3 6 rfl) (by kernel_rfl) (by kernel_rfl) (by kernel_rfl) (by kernel_rfl)) (And.intro (ob_call (P := pg) (A := an) (H := H2) (g := 38) (vals := [.y (.one (.ptr c 0)), .y (.agg [vi p.1, vi p.2.1])]) (xs0 := [.one (.ptr c 0), .agg [vi p.1, vi p.2.1]]) (res := [.one (vi 0), .one (vi 0), .one (vi 3)]) (ats := #[]) (ty := 0) (v := .tup [.one (vi 0), .one (vi 0), .one (vi 3)]) (H' := H52) [.tmp 0, .tmp 1] (by kernel_rfl) (by kernel_rfl) hr53 (by kernel_rfl)) trivial)) (by kernel_rfl)) (by kernel_rfl) ?_
    refine Wp.gen (cs := [R, pts n1 (.obj [vi p.1, vi p.2.1]), pts c (.obj [rowC ks 0 S.length 0 S.length false, vi hand, .ptr q0 0, .ptr q1 0, .ptr q2 0]), pts ks (rowO NI true 0 S), ringP EN q0 64 l0, ringP EN q1 64 l1, ringP EN q2 64 l2]) hs54 ?_
    intro H55 hs56
    refine Wp.regionSeq [] [(4, xb false)] H55
      (cast trivial (by kernel_rfl)) (by kernel_rfl) ?_
    refine Wp.ret ?_
    refine ⟨Or.inr rfl, [.one (vb false)], (by kernel_rfl), ?_⟩
    exact .inr ⟨by omega, by omega, by omega, rfl, (On.pick [0, 2, 3, 4, 5, 6] [1] (by kernel_rfl) hs56)⟩
theorem push_all (R : HP) (H : Go.Lg.Heap) (c ks q0 q1 q2 : Nat) (S : List Int) (hand : Int) (l0 l1 l2 : List EN.T) (kk : Int) (p : PN.T) (hs : On [R, pts c (.obj [rowC ks 0 S.length 0 S.length false, vi hand, .ptr q0 0, .ptr q1 0, .ptr q2 0]), pts ks (rowO NI true 0 S), ringP EN q0 64 l0, ringP EN q1 64 l1, ringP EN q2 64 l2] H) (hS : 3 ≤ (S.length : Int)) (hT : (S.length : Int) ≤ 64) (b0 : (l0.length : Int) ≤ 64) (b1 : (l1.length : Int) ≤ 64) (b2 : (l2.length : Int) ≤ 64) : ∃ rs H', Runs pg an 17 [.one (.ptr c 0), .one (vi kk), .agg [vi p.1, vi p.2.1]] H rs H' ∧ (((kk < 0 ∨ 3 ≤ kk ∨ 0 ≤ posI p l0 ∨ 0 ≤ posI p l1 ∨ 0 ≤ posI p l2) ∧ rs = [.one (vi 1)] ∧ On [R, pts c (.obj [rowC ks 0 S.length 0 S.length false, vi hand, .ptr q0 0, .ptr q1 0, .ptr q2 0]), pts ks (rowO NI true 0 S), ringP EN q0 64 l0, ringP EN q1 64 l1, ringP EN q2 64 l2] H') ∨ (((kk = 0 ∧ 64 ≤ (l0.length : Int)) ∨ (kk = 1 ∧ 64 ≤ (l1.length : Int)) ∨ (kk = 2 ∧ 64 ≤ (l2.length : Int))) ∧ rs = [.one (vi 2)] ∧ On [R, pts c (.obj [rowC ks 0 S.length 0 S.length false, vi hand, .ptr q0 0, .ptr q1 0, .ptr q2 0]), pts ks (rowO NI true 0 S), ringP EN q0 64 l0, ringP EN q1 64 l1, ringP EN q2 64 l2] H') ∨ (kk = 0 ∧ posI p l0 < 0 ∧ posI p l1 < 0 ∧ posI p l2 < 0 ∧ (l0.length : Int) < 64 ∧ rs = [.one (vi 0)] ∧ On [R, pts c (.obj [rowC ks 0 S.length 0 S.length false, vi hand, .ptr q0 0, .ptr q1 0, .ptr q2 0]), pts ks (rowO NI true 0 S), ringP EN q0 64 (l0 ++ [(p, (false, ()))]), ringP EN q1 64 l1, ringP EN q2 64 l2] H') ∨ (kk = 1 ∧ posI p l0 < 0 ∧ posI p l1 < 0 ∧ posI p l2 < 0 ∧ (l1.length : Int) < 64 ∧ rs = [.one (vi 0)] ∧ On [R, pts c (.obj [rowC ks 0 S.length 0 S.length false, vi hand, .ptr q0 0, .ptr q1 0, .ptr q2 0]), pts ks (rowO NI true 0 S), ringP EN q0 64 l0, ringP EN q1 64 (l1 ++ [(p, (false, ()))]), ringP EN q2 64 l2] H') ∨ (kk = 2 ∧ posI p l0 < 0 ∧ posI p l1 < 0 ∧ posI p l2 < 0 ∧ (l2.length : Int) < 64 ∧ rs = [.one (vi 0)] ∧ On [R, pts c (.obj [rowC ks 0 S.length 0 S.length false, vi hand, .ptr q0 0, .ptr q1 0, .ptr q2 0]), pts ks (rowO NI true 0 S), ringP EN q0 64 l0, ringP EN q1 64 l1, ringP EN q2 64 (l2 ++ [(p, (false, ()))])] H')) := by
 refine Runs.of (fn := Try.f17) Try.func17 rfl (by kernel_rfl) [(0, .y (.one (.ptr c 0))), (1, xi kk), (2, .y (.agg [vi p.1, vi p.2.1]))] (by kernel_rfl) ?_
 obtain ⟨n1, hn1⟩ : ∃ n, n = List.length (H : Go.Lg.Heap) := ⟨_, rfl⟩
 refine Wp.regionSeq [(0, .y (.one (.ptr n1 0)), (H ++ [.obj [vi p.1, vi p.2.1]]))] [(0, .y (.one (.ptr c 0))), (1, xi kk), (5, .y (.one (.ptr n1 0)))] (H ++ [.obj [vi p.1, vi p.2.1]])
   (cast (And.intro (ob_box (P := pg) (A := an) (H := H) (t := 38) (ty := 0) (n := n1) (v := .agg [vi p.1, vi p.2.1]) (cs := [vi p.1, vi p.2.1]) hn1 (by kernel_rfl) (by kernel_rfl) (by kernel_rfl)) trivial) (by kernel_rfl)) (by kernel_rfl) ?_
 refine Wp.gen (cs := [R, pts c (.obj [rowC ks 0 S.length 0 S.length false, vi hand, .ptr q0 0, .ptr q1 0, .ptr q2 0]), pts ks (rowO NI true 0 S), ringP EN q0 64 l0, ringP EN q1 64 l1, ringP EN q2 64 l2, pts n1 (.obj [vi p.1, vi p.2.1])]) (On.new' hn1 (.obj [vi p.1, vi p.2.1]) hs) ?_
 intro H2 hs3
 refine Wp.seq ?_
 by_cases c6 : (0 : Int) ≤ kk
 ·
  by_cases c9 : (kk : Int) < 3
  ·
   have hz12 := posI_bd p l0
   have hz16 := posI_bd p l1
   have hz21 := posI_bd p l2
   obtain ⟨_, H31, hr32, ⟨hz30, rfl, hs33⟩ | ⟨hz27, hz28, hz29, rfl, hs33⟩⟩ := stands_all _ (H2 : Go.Lg.Heap) (On.call [1, 2, 3, 4, 5] [0, 6] (by kernel_rfl) hs3) (c := c) (ks := ks) (q0 := q0) (q1 := q1) (q2 := q2) (S := S) (hand := hand) (l0 := l0) (l1 := l1) (l2 := l2) (p := p) (by omega) (by omega) (by first | rfl | omega | (simp only [List.length_nil]; omega) | (simp; done) | (simp; omega)) (by first | rfl | omega | (simp only [List.length_nil]; omega) | (simp; done) | (simp; omega)) (by first | rfl | omega | (simp only [List.length_nil]; omega) | (simp; done) | (simp; omega))
   ·
    have hs34 : On [R, pts n1 (.obj [vi p.1, vi p.2.1]), pts c (.obj [rowC ks 0 S.length 0 S.length false, vi hand, .ptr q0 0, .ptr q1 0, .ptr q2 0]), pts ks (rowO NI true 0 S), ringP EN q0 64 l0, ringP EN q1 64 l1, ringP EN q2 64 l2] H31 := On.flat hs33
    have hcall35 : Runs pg an 31 [.one (.ptr c 0)] H2 [.one (vb true)] H2 := by
     refine runs_of ?_
     refine Runs.of (fn := Try.f31) Try.func31 rfl (by kernel_rfl) [(0, .y (.one (.ptr c 0)))] (by kernel_rfl) ?_
     refine Wp.regionSeq [] [(0, .y (.one (.ptr c 0)))] H2
       (cast trivial (by kernel_rfl)) (by kernel_rfl) ?_
     refine Wp.regionSeq [(6, .y (.one (rowC ks 0 S.length 0 S.length false)), H2), (7, xi (S.length : Int), H2), (8, xb true, H2)] [(2, xb true)] H2
       (cast (And.intro (ob_load_ptr (P := pg) (A := an) (H := H2) (t := 22) (ty := 0) (id := c) (off := 0) (n := 1) (cs := [rowC ks 0 S.length 0 S.length false, vi hand, .ptr q0 0, .ptr q1 0, .ptr q2 0]) (cs' := [rowC ks 0 S.length 0 S.length false]) (v := .one (rowC ks 0 S.length 0 S.length false)) (On.at hs3 1 rfl) (by kernel_rfl) (by kernel_rfl) (by kernel_rfl) (by kernel_rfl)) (And.intro (or_len (P := pg) (A := an) (H := H2) (s := NI) (t := 22) (ty := 0) (pu := true) (capd := false) (id := ks) (d := 0) (o := 0) (n := S.length) (l := S) (e := (S.length : Int)) (On.at hs3 2 rfl) (by kernel_rfl) (by first | rfl | omega | (simp only [List.length_nil]; omega) | (simp; done) | (simp; omega))) (And.intro (ob_raw (P := pg) (A := an) (vals := [xi (S.length : Int), xi 0]) (H := H2) (op := .binOp .gtr 3 (.tmp 0) (.tmp 1) 3) (ty := 0) (r := xb (decide (((S.length : Int) : Int) > 0))) (v := xb true) (by kernel_rfl) (congrArg (fun z => xb z) (decide_eq_true (by omega)))) trivial))) (by kernel_rfl)) (by kernel_rfl) ?_
     refine Wp.ret ?_
     exact ⟨Or.inr rfl, [.one (vb true)], (by kernel_rfl), ⟨rfl, rfl⟩⟩
    have hcall36 : Runs pg an 40 [.one (vi kk)] H2 [.one (vb true)] H2 := by
     refine runs_of ?_
     refine Runs.of (fn := Try.f40) Try.func40 rfl (by kernel_rfl) [(0, xi kk)] (by kernel_rfl) ?_
     refine Wp.regionSeq [] [(0, xi kk)] H2
       (cast trivial (by kernel_rfl)) (by kernel_rfl) ?_
     refine Wp.regionSeq [(1, xb true, H2), (4, xb true, H2)] [(2, xb true)] H2
       (cast (And.intro (ob_raw (P := pg) (A := an) (vals := [xi kk, xi 0]) (H := H2) (op := .binOp .geq 3 (.tmp 0) (.tmp 1) 3) (ty := 0) (r := xb (decide ((kk : Int) ≥ 0))) (v := xb true) (by kernel_rfl) (congrArg (fun z => xb z) (decide_eq_true (by omega)))) (And.intro (ob_raw (P := pg) (A := an) (vals := [xi kk, xi 3]) (H := H2) (op := .binOp .lss 3 (.tmp 0) (.tmp 1) 3) (ty := 0) (r := xb (decide ((kk : Int) < 3))) (v := xb true) (by kernel_rfl) (congrArg (fun z => xb z) (decide_eq_true (by omega)))) trivial)) (by kernel_rfl)) (by kernel_rfl) ?_
     refine Wp.ret ?_
     exact ⟨Or.inr rfl, [.one (vb true)], (by kernel_rfl), ⟨rfl, rfl⟩⟩
    refine Wp.regionSeq [(1, xb true, H2), (5, xb true, H2), (10, .y (.agg [vi p.1, vi p.2.1]), H2), (11, xb true, H31)] [(0, .y (.one (.ptr c 0))), (1, xi kk), (5, .y (.one (.ptr n1 0))), (19, xb true)] H31
      (cast (And.intro (ob_call (P := pg) (A := an) (H := H2) (g := 31) (vals := [.y (.one (.ptr c 0))]) (xs0 := [.one (.ptr c 0)]) (res := [.one (vb true)]) (ats := #[]) (ty := 0) (v := xb true) (H' := H2) [.tmp 0] (by kernel_rfl) (by kernel_rfl) hcall35 (by kernel_rfl)) (And.intro (ob_call (P := pg) (A := an) (H := H2) (g := 40) (vals := [xi kk]) (xs0 := [.one (vi kk)]) (res := [.one (vb true)]) (ats := #[]) (ty := 0) (v := xb true) (H' := H2) [.tmp 0] (by kernel_rfl) (by kernel_rfl) hcall36 (by kernel_rfl)) (And.intro (ob_load_ptr (P := pg) (A := an) (H := H2) (t := 38) (ty := 0) (id := n1) (off := 0) (n := 2) (cs := [vi p.1, vi p.2.1]) (cs' := [vi p.1, vi p.2.1]) (v := .agg [vi p.1, vi p.2.1]) (On.at hs3 6 rfl) (by kernel_rfl) (by kernel_rfl) (by kernel_rfl) (by kernel_rfl)) (And.intro (ob_call (P := pg) (A := an) (H := H2) (g := 41) (vals := [.y (.one (.ptr c 0)), .y (.agg [vi p.1, vi p.2.1])]) (xs0 := [.one (.ptr c 0), .agg [vi p.1, vi p.2.1]]) (res := [.one (vb true)]) (ats := #[]) (ty := 0) (v := xb true) (H' := H31) [.tmp 0, .tmp 1] (by kernel_rfl) (by kernel_rfl) hr32 (by kernel_rfl)) trivial)))) (by kernel_rfl)) (by kernel_rfl) ?_
    refine Wp.gen (cs := [R, pts n1 (.obj [vi p.1, vi p.2.1]), pts c (.obj [rowC ks 0 S.length 0 S.length false, vi hand, .ptr q0 0, .ptr q1 0, .ptr q2 0]), pts ks (rowO NI true 0 S), ringP EN q0 64 l0, ringP EN q1 64 l1, ringP EN q2 64 l2]) hs34 ?_
    intro H37 hs38
    refine Wp.condT (by kernel_rfl) ?_
    refine Wp.regionSeq [] [(6, xi 1)] H37
      (cast trivial (by kernel_rfl)) (by kernel_rfl) ?_
    refine Wp.ret ?_
    refine ⟨Or.inr rfl, [.one (vi 1)], (by kernel_rfl), ?_⟩
    exact .inl ⟨by omega, rfl, (On.pick [0, 2, 3, 4, 5, 6] [1] (by kernel_rfl) hs38)⟩
   ·
    have hs39 : On [R, pts n1 (.obj [vi p.1, vi p.2.1]), pts c (.obj [rowC ks 0 S.length 0 S.length false, vi hand, .ptr q0 0, .ptr q1 0, .ptr q2 0]), pts ks (rowO NI true 0 S), ringP EN q0 64 l0, ringP EN q1 64 l1, ringP EN q2 64 l2] H31 := On.flat hs33
    have hcall40 : Runs pg an 31 [.one (.ptr c 0)] H2 [.one (vb true)] H2 := by
     refine runs_of ?_
     refine Runs.of (fn := Try.f31) Try.func31 rfl (by kernel_rfl) [(0, .y (.one (.ptr c 0)))] (by kernel_rfl) ?_
     refine Wp.regionSeq [] [(0, .y (.one (.ptr c 0)))] H2
       (cast trivial (by kernel_rfl)) (by kernel_rfl) ?_
     refine Wp.regionSeq [(6, .y (.one (rowC ks 0 S.length 0 S.length false)), H2), (7, xi (S.length : Int), H2), (8, xb true, H2)] [(2, xb true)] H2
       (cast (And.intro (ob_load_ptr (P := pg) (A := an) (H := H2) (t := 22) (ty := 0) (id := c) (off := 0) (n := 1) (cs := [rowC ks 0 S.length 0 S.length false, vi hand, .ptr q0 0, .ptr q1 0, .ptr q2 0]) (cs' := [rowC ks 0 S.length 0 S.length false]) (v := .one (rowC ks 0 S.length 0 S.length false)) (On.at hs3 1 rfl) (by kernel_rfl) (by kernel_rfl) (by kernel_rfl) (by kernel_rfl)) (And.intro (or_len (P := pg) (A := an) (H := H2) (s := NI) (t := 22) (ty := 0) (pu := true) (capd := false) (id := ks) (d := 0) (o := 0) (n := S.length) (l := S) (e := (S.length : Int)) (On.at hs3 2 rfl) (by kernel_rfl) (by first | rfl | omega | (simp only [List.length_nil]; omega) | (simp; done) | (simp; omega))) (And.intro (ob_raw (P := pg) (A := an) (vals := [xi (S.length : Int), xi 0]) (H := H2) (op := .binOp .gtr 3 (.tmp 0) (.tmp 1) 3) (ty := 0) (r := xb (decide (((S.length : Int) : Int) > 0))) (v := xb true) (by kernel_rfl) (congrArg (fun z => xb z) (decide_eq_true (by omega)))) trivial))) (by kernel_rfl)) (by kernel_rfl) ?_
     refine Wp.ret ?_
     exact ⟨Or.inr rfl, [.one (vb true)], (by kernel_rfl), ⟨rfl, rfl⟩⟩
    have hcall41 : Runs pg an 40 [.one (vi kk)] H2 [.one (vb true)] H2 := by
     refine runs_of ?_
     refine Runs.of (fn := Try.f40) Try.func40 rfl (by kernel_rfl) [(0, xi kk)] (by kernel_rfl) ?_
     refine Wp.regionSeq [] [(0, xi kk)] H2
       (cast trivial (by kernel_rfl)) (by kernel_rfl) ?_
     refine Wp.regionSeq [(1, xb true, H2), (4, xb true, H2)] [(2, xb true)] H2
       (cast (And.intro (ob_raw (P := pg) (A := an) (vals := [xi kk, xi 0]) (H := H2) (op := .binOp .geq 3 (.tmp 0) (.tmp 1) 3) (ty := 0) (r := xb (decide ((kk : Int) ≥ 0))) (v := xb true) (by kernel_rfl) (congrArg (fun z => xb z) (decide_eq_true (by omega)))) (And.intro (ob_raw (P := pg) (A := an) (vals := [xi kk, xi 3]) (H := H2) (op := .binOp .lss 3 (.tmp 0) (.tmp 1) 3) (ty := 0) (r := xb (decide ((kk : Int) < 3))) (v := xb true) (by kernel_rfl) (congrArg (fun z => xb z) (decide_eq_true (by omega)))) trivial)) (by kernel_rfl)) (by kernel_rfl) ?_
     refine Wp.ret ?_
     exact ⟨Or.inr rfl, [.one (vb true)], (by kernel_rfl), ⟨rfl, rfl⟩⟩
    refine Wp.regionSeq [(1, xb true, H2), (5, xb true, H2), (10, .y (.agg [vi p.1, vi p.2.1]), H2), (11, xb false, H31)] [(0, .y (.one (.ptr c 0))), (1, xi kk), (5, .y (.one (.ptr n1 0))), (19, xb false)] H31
      (cast (And.intro (ob_call (P := pg) (A := an) (H := H2) (g := 31) (vals := [.y (.one (.ptr c 0))]) (xs0 := [.one (.ptr c 0)]) (res := [.one (vb true)]) (ats := #[]) (ty := 0) (v := xb true) (H' := H2) [.tmp 0] (by kernel_rfl) (by kernel_rfl) hcall40 (by kernel_rfl)) (And.intro (ob_call (P := pg) (A := an) (H := H2) (g := 40) (vals := [xi kk]) (xs0 := [.one (vi kk)]) (res := [.one (vb true)]) (ats := #[]) (ty := 0) (v := xb true) (H' := H2) [.tmp 0] (by kernel_rfl) (by kernel_rfl) hcall41 (by kernel_rfl)) (And.intro (ob_load_ptr (P := pg) (A := an) (H := H2) (t := 38) (ty := 0) (id := n1) (off := 0) (n := 2) (cs := [vi p.1, vi p.2.1]) (cs' := [vi p.1, vi p.2.1]) (v := .agg [vi p.1, vi p.2.1]) (On.at hs3 6 rfl) (by kernel_rfl) (by kernel_rfl) (by kernel_rfl) (by kernel_rfl)) (And.intro (ob_call (P := pg) (A := an) (H := H2) (g := 41) (vals := [.y (.one (.ptr c 0)), .y (.agg [vi p.1, vi p.2.1])]) (xs0 := [.one (.ptr c 0), .agg [vi p.1, vi p.2.1]]) (res := [.one (vb false)]) (ats := #[]) (ty := 0) (v := xb false) (H' := H31) [.tmp 0, .tmp 1] (by kernel_rfl) (by kernel_rfl) hr32 (by kernel_rfl)) trivial)))) (by kernel_rfl)) (by kernel_rfl) ?_
    refine Wp.gen (cs := [R, pts n1 (.obj [vi p.1, vi p.2.1]), pts c (.obj [rowC ks 0 S.length 0 S.length false, vi hand, .ptr q0 0, .ptr q1 0, .ptr q2 0]), pts ks (rowO NI true 0 S), ringP EN q0 64 l0, ringP EN q1 64 l1, ringP EN q2 64 l2]) hs39 ?_
    intro H42 hs43
    refine Wp.condF (by kernel_rfl) ?_
    refine Wp.skip ?_
    rcases (show kk = 0 ∨ kk = 1 ∨ kk = 2 from by omega) with rfl | rfl | rfl
    ·
     by_cases c44 : (64 : Int) ≤ (l0.length : Int)
     ·
      obtain ⟨_, H45, hr46, rfl, hs47⟩ := push_full _ (H42 : Go.Lg.Heap) (On.call [4] [0, 1, 2, 3, 5, 6] (by kernel_rfl) hs43) (q := q0) (room := 64) (l := l0) (x := (p, (false, ()))) (by first | rfl | omega | (simp only [List.length_nil]; omega) | (simp; done) | (simp; omega))
      have hs47 : On [R, pts n1 (.obj [vi p.1, vi p.2.1]), pts c (.obj [rowC ks 0 S.length 0 S.length false, vi hand, .ptr q0 0, .ptr q1 0, .ptr q2 0]), pts ks (rowO NI true 0 S), ringP EN q1 64 l1, ringP EN q2 64 l2, ringP EN q0 64 l0] H45 := On.flat hs47
      refine Wp.regionSeq [(6, .y (.one (.ptr q0 0)), H42), (7, .y (.agg [vi p.1, vi p.2.1]), H42), (9, xi 2, H45)] [(6, xi 2)] H45
        (cast (And.intro (ob_load_ptr (P := pg) (A := an) (H := H42) (t := 78) (ty := 0) (id := c) (off := 2) (n := 1) (cs := [rowC ks 0 S.length 0 S.length false, vi hand, .ptr q0 0, .ptr q1 0, .ptr q2 0]) (cs' := [.ptr q0 0]) (v := .one (.ptr q0 0)) (On.at hs43 2 rfl) (by kernel_rfl) (by kernel_rfl) (by kernel_rfl) (by kernel_rfl)) (And.intro (ob_load_ptr (P := pg) (A := an) (H := H42) (t := 38) (ty := 0) (id := n1) (off := 0) (n := 2) (cs := [vi p.1, vi p.2.1]) (cs' := [vi p.1, vi p.2.1]) (v := .agg [vi p.1, vi p.2.1]) (On.at hs43 1 rfl) (by kernel_rfl) (by kernel_rfl) (by kernel_rfl) (by kernel_rfl)) (And.intro (ob_call (P := pg) (A := an) (H := H42) (g := 42) (vals := [.y (.one (.ptr q0 0)), .y (.agg [vi p.1, vi p.2.1, vb false])]) (xs0 := [.one (.ptr q0 0), .agg [vi p.1, vi p.2.1, vb false]]) (res := [.one (vi 2)]) (ats := #[]) (ty := 0) (v := xi 2) (H' := H45) [.tmp 0, .tmp 1] (by kernel_rfl) (by kernel_rfl) hr46 (by kernel_rfl)) trivial))) (by kernel_rfl)) (by kernel_rfl) ?_
      refine Wp.gen (cs := [R, pts n1 (.obj [vi p.1, vi p.2.1]), pts c (.obj [rowC ks 0 S.length 0 S.length false, vi hand, .ptr q0 0, .ptr q1 0, .ptr q2 0]), pts ks (rowO NI true 0 S), ringP EN q1 64 l1, ringP EN q2 64 l2, ringP EN q0 64 l0]) hs47 ?_
      intro H48 hs49
      refine Wp.ret ?_
      refine ⟨Or.inr rfl, [.one (vi 2)], (by kernel_rfl), ?_⟩
      exact .inr (.inl ⟨by omega, rfl, (On.pick [0, 2, 3, 6, 4, 5] [1] (by kernel_rfl) hs49)⟩)
     ·
      have hlfz50 : ((l0 ++ [(p, (false, ()))]).length : Int) = ((l0.length : Int) + 1) := by { first | rfl | omega | (simp only [List.length_nil]; omega) | (simp; done) | (simp; omega) }
      obtain ⟨_, H52, hr53, rfl, hs54⟩ := push_ok _ (H42 : Go.Lg.Heap) (On.call [4] [0, 1, 2, 3, 5, 6] (by kernel_rfl) hs43) (q := q0) (room := 64) (l := l0) (x := (p, (false, ()))) (by first | rfl | omega | (simp only [List.length_nil]; omega) | (simp; done) | (simp; omega))
      have hs54 : On [R, pts n1 (.obj [vi p.1, vi p.2.1]), pts c (.obj [rowC ks 0 S.length 0 S.length false, vi hand, .ptr q0 0, .ptr q1 0, .ptr q2 0]), pts ks (rowO NI true 0 S), ringP EN q1 64 l1, ringP EN q2 64 l2, ringP EN q0 64 (l0 ++ [(p, (false, ()))])] H52 := On.flat hs54
      refine Wp.regionSeq [(6, .y (.one (.ptr q0 0)), H42), (7, .y (.agg [vi p.1, vi p.2.1]), H42), (9, xi 0, H52)] [(6, xi 0)] H52
        (cast (And.intro (ob_load_ptr (P := pg) (A := an) (H := H42) (t := 78) (ty := 0) (id := c) (off := 2) (n := 1) (cs := [rowC ks 0 S.length 0 S.length false, vi hand, .ptr q0 0, .ptr q1 0, .ptr q2 0]) (cs' := [.ptr q0 0]) (v := .one (.ptr q0 0)) (On.at hs43 2 rfl) (by kernel_rfl) (by kernel_rfl) (by kernel_rfl) (by kernel_rfl)) (And.intro (ob_load_ptr (P := pg) (A := an) (H := H42) (t := 38) (ty := 0) (id := n1) (off := 0) (n := 2) (cs := [vi p.1, vi p.2.1]) (cs' := [vi p.1, vi p.2.1]) (v := .agg [vi p.1, vi p.2.1]) (On.at hs43 1 rfl) (by kernel_rfl) (by kernel_rfl) (by kernel_rfl) (by kernel_rfl)) (And.intro (ob_call (P := pg) (A := an) (H := H42) (g := 42) (vals := [.y (.one (.ptr q0 0)), .y (.agg [vi p.1, vi p.2.1, vb false])]) (xs0 := [.one (.ptr q0 0), .agg [vi p.1, vi p.2.1, vb false]]) (res := [.one (vi 0)]) (ats := #[]) (ty := 0) (v := xi 0) (H' := H52) [.tmp 0, .tmp 1] (by kernel_rfl) (by kernel_rfl) hr53 (by kernel_rfl)) trivial))) (by kernel_rfl)) (by kernel_rfl) ?_
      refine Wp.gen (cs := [R, pts n1 (.obj [vi p.1, vi p.2.1]), pts c (.obj [rowC ks 0 S.length 0 S.length false, vi hand, .ptr q0 0, .ptr q1 0, .ptr q2 0]), pts ks (rowO NI true 0 S), ringP EN q1 64 l1, ringP EN q2 64 l2, ringP EN q0 64 (l0 ++ [(p, (false, ()))])]) hs54 ?_
      intro H55 hs56
      refine Wp.ret ?_
      refine ⟨Or.inr rfl, [.one (vi 0)], (by kernel_rfl), ?_⟩
      exact .inr (.inr (.inl ⟨rfl, by omega, by omega, by omega, by omega, rfl, (On.pick [0, 2, 3, 6, 4, 5] [1] (by kernel_rfl) hs56)⟩))
    ·
     by_cases c57 : (64 : Int) ≤ (l1.length : Int)
     ·
      obtain ⟨_, H58, hr59, rfl, hs60⟩ := push_full _ (H42 : Go.Lg.Heap) (On.call [5] [0, 1, 2, 3, 4, 6] (by kernel_rfl) hs43) (q := q1) (room := 64) (l := l1) (x := (p, (false, ()))) (by first | rfl | omega | (simp only [List.length_nil]; omega) | (simp; done) | (simp; omega))
      have hs60 : On [R, pts n1 (.obj [vi p.1, vi p.2.1]), pts c (.obj [rowC ks 0 S.length 0 S.length false, vi hand, .ptr q0 0, .ptr q1 0, .ptr q2 0]), pts ks (rowO NI true 0 S), ringP EN q0 64 l0, ringP EN q2 64 l2, ringP EN q1 64 l1] H58 := On.flat hs60
      refine Wp.regionSeq [(6, .y (.one (.ptr q1 0)), H42), (7, .y (.agg [vi p.1, vi p.2.1]), H42), (9, xi 2, H58)] [(6, xi 2)] H58
        (cast (And.intro (ob_load_ptr (P := pg) (A := an) (H := H42) (t := 78) (ty := 0) (id := c) (off := 3) (n := 1) (cs := [rowC ks 0 S.length 0 S.length false, vi hand, .ptr q0 0, .ptr q1 0, .ptr q2 0]) (cs' := [.ptr q1 0]) (v := .one (.ptr q1 0)) (On.at hs43 2 rfl) (by kernel_rfl) (by kernel_rfl) (by kernel_rfl) (by kernel_rfl)) (And.intro (ob_load_ptr (P := pg) (A := an) (H := H42) (t := 38) (ty := 0) (id := n1) (off := 0) (n := 2) (cs := [vi p.1, vi p.2.1]) (cs' := [vi p.1, vi p.2.1]) (v := .agg [vi p.1, vi p.2.1]) (On.at hs43 1 rfl) (by kernel_rfl) (by kernel_rfl) (by kernel_rfl) (by kernel_rfl)) (And.intro (ob_call (P := pg) (A := an) (H := H42) (g := 42) (vals := [.y (.one (.ptr q1 0)), .y (.agg [vi p.1, vi p.2.1, vb false])]) (xs0 := [.one (.ptr q1 0), .agg [vi p.1, vi p.2.1, vb false]]) (res := [.one (vi 2)]) (ats := #[]) (ty := 0) (v := xi 2) (H' := H58) [.tmp 0, .tmp 1] (by kernel_rfl) (by kernel_rfl) hr59 (by kernel_rfl)) trivial))) (by kernel_rfl)) (by kernel_rfl) ?_
      refine Wp.gen (cs := [R, pts n1 (.obj [vi p.1, vi p.2.1]), pts c (.obj [rowC ks 0 S.length 0 S.length false, vi hand, .ptr q0 0, .ptr q1 0, .ptr q2 0]), pts ks (rowO NI true 0 S), ringP EN q0 64 l0, ringP EN q2 64 l2, ringP EN q1 64 l1]) hs60 ?_
      intro H61 hs62
      refine Wp.ret ?_
      refine ⟨Or.inr rfl, [.one (vi 2)], (by kernel_rfl), ?_⟩
      exact .inr (.inl ⟨by omega, rfl, (On.pick [0, 2, 3, 4, 6, 5] [1] (by kernel_rfl) hs62)⟩)
     ·
      have hlfz63 : ((l1 ++ [(p, (false, ()))]).length : Int) = ((l1.length : Int) + 1) := by { first | rfl | omega | (simp only [List.length_nil]; omega) | (simp; done) | (simp; omega) }
      obtain ⟨_, H65, hr66, rfl, hs67⟩ := push_ok _ (H42 : Go.Lg.Heap) (On.call [5] [0, 1, 2, 3, 4, 6] (by kernel_rfl) hs43) (q := q1) (room := 64) (l := l1) (x := (p, (false, ()))) (by first | rfl | omega | (simp only [List.length_nil]; omega) | (simp; done) | (simp; omega))
      have hs67 : On [R, pts n1 (.obj [vi p.1, vi p.2.1]), pts c (.obj [rowC ks 0 S.length 0 S.length false, vi hand, .ptr q0 0, .ptr q1 0, .ptr q2 0]), pts ks (rowO NI true 0 S), ringP EN q0 64 l0, ringP EN q2 64 l2, ringP EN q1 64 (l1 ++ [(p, (false, ()))])] H65 := On.flat hs67
      refine Wp.regionSeq [(6, .y (.one (.ptr q1 0)), H42), (7, .y (.agg [vi p.1, vi p.2.1]), H42), (9, xi 0, H65)] [(6, xi 0)] H65
        (cast (And.intro (ob_load_ptr (P := pg) (A := an) (H := H42) (t := 78) (ty := 0) (id := c) (off := 3) (n := 1) (cs := [rowC ks 0 S.length 0 S.length false, vi hand, .ptr q0 0, .ptr q1 0, .ptr q2 0]) (cs' := [.ptr q1 0]) (v := .one (.ptr q1 0)) (On.at hs43 2 rfl) (by kernel_rfl) (by kernel_rfl) (by kernel_rfl) (by kernel_rfl)) (And.intro (ob_load_ptr (P := pg) (A := an) (H := H42) (t := 38) (ty := 0) (id := n1) (off := 0) (n := 2) (cs := [vi p.1, vi p.2.1]) (cs' := [vi p.1, vi p.2.1]) (v := .agg [vi p.1, vi p.2.1]) (On.at hs43 1 rfl) (by kernel_rfl) (by kernel_rfl) (by kernel_rfl) (by kernel_rfl)) (And.intro (ob_call (P := pg) (A := an) (H := H42) (g := 42) (vals := [.y (.one (.ptr q1 0)), .y (.agg [vi p.1, vi p.2.1, vb false])]) (xs0 := [.one (.ptr q1 0), .agg [vi p.1, vi p.2.1, vb false]]) (res := [.one (vi 0)]) (ats := #[]) (ty := 0) (v := xi 0) (H' := H65) [.tmp 0, .tmp 1] (by kernel_rfl) (by kernel_rfl) hr66 (by kernel_rfl)) trivial))) (by kernel_rfl)) (by kernel_rfl) ?_
      refine Wp.gen (cs := [R, pts n1 (.obj [vi p.1, vi p.2.1]), pts c (.obj [rowC ks 0 S.length 0 S.length false, vi hand, .ptr q0 0, .ptr q1 0, .ptr q2 0]), pts ks (rowO NI true 0 S), ringP EN q0 64 l0, ringP EN q2 64 l2, ringP EN q1 64 (l1 ++ [(p, (false, ()))])]) hs67 ?_
      intro H68 hs69
      refine Wp.ret ?_
      refine ⟨Or.inr rfl, [.one (vi 0)], (by kernel_rfl), ?_⟩
      exact .inr (.inr (.inr (.inl ⟨rfl, by omega, by omega, by omega, by omega, rfl, (On.pick [0, 2, 3, 4, 6, 5] [1] (by kernel_rfl) hs69)⟩)))
    ·
     by_cases c70 : (64 : Int) ≤ (l2.length : Int)
     ·
      obtain ⟨_, H71, hr72, rfl, hs73⟩ := push_full _ (H42 : Go.Lg.Heap) (On.call [6] [0, 1, 2, 3, 4, 5] (by kernel_rfl) hs43) (q := q2) (room := 64) (l := l2) (x := (p, (false, ()))) (by first | rfl | omega | (simp only [List.length_nil]; omega) | (simp; done) | (simp; omega))
      have hs73 : On [R, pts n1 (.obj [vi p.1, vi p.2.1]), pts c (.obj [rowC ks 0 S.length 0 S.length false, vi hand, .ptr q0 0, .ptr q1 0, .ptr q2 0]), pts ks (rowO NI true 0 S), ringP EN q0 64 l0, ringP EN q1 64 l1, ringP EN q2 64 l2] H71 := On.flat hs73
      refine Wp.regionSeq [(6, .y (.one (.ptr q2 0)), H42), (7, .y (.agg [vi p.1, vi p.2.1]), H42), (9, xi 2, H71)] [(6, xi 2)] H71
        (cast (And.intro (ob_load_ptr (P := pg) (A := an) (H := H42) (t := 78) (ty := 0) (id := c) (off := 4) (n := 1) (cs := [rowC ks 0 S.length 0 S.length false, vi hand, .ptr q0 0, .ptr q1 0, .ptr q2 0]) (cs' := [.ptr q2 0]) (v := .one (.ptr q2 0)) (On.at hs43 2 rfl) (by kernel_rfl) (by kernel_rfl) (by kernel_rfl) (by kernel_rfl)) (And.intro (ob_load_ptr (P := pg) (A := an) (H := H42) (t := 38) (ty := 0) (id := n1) (off := 0) (n := 2) (cs := [vi p.1, vi p.2.1]) (cs' := [vi p.1, vi p.2.1]) (v := .agg [vi p.1, vi p.2.1]) (On.at hs43 1 rfl) (by kernel_rfl) (by kernel_rfl) (by kernel_rfl) (by kernel_rfl)) (And.intro (ob_call (P := pg) (A := an) (H := H42) (g := 42) (vals := [.y (.one (.ptr q2 0)), .y (.agg [vi p.1, vi p.2.1, vb false])]) (xs0 := [.one (.ptr q2 0), .agg [vi p.1, vi p.2.1, vb false]]) (res := [.one (vi 2)]) (ats := #[]) (ty := 0) (v := xi 2) (H' := H71) [.tmp 0, .tmp 1] (by kernel_rfl) (by kernel_rfl) hr72 (by kernel_rfl)) trivial))) (by kernel_rfl)) (by kernel_rfl) ?_
      refine Wp.gen (cs := [R, pts n1 (.obj [vi p.1, vi p.2.1]), pts c (.obj [rowC ks 0 S.length 0 S.length false, vi hand, .ptr q0 0, .ptr q1 0, .ptr q2 0]), pts ks (rowO NI true 0 S), ringP EN q0 64 l0, ringP EN q1 64 l1, ringP EN q2 64 l2]) hs73 ?_
      intro H74 hs75
      refine Wp.ret ?_
      refine ⟨Or.inr rfl, [.one (vi 2)], (by kernel_rfl), ?_⟩
      exact .inr (.inl ⟨by omega, rfl, (On.pick [0, 2, 3, 4, 5, 6] [1] (by kernel_rfl) hs75)⟩)
     ·
      have hlfz76 : ((l2 ++ [(p, (false, ()))]).length : Int) = ((l2.length : Int) + 1) := by { first | rfl | omega | (simp only [List.length_nil]; omega) | (simp; done) | (simp; omega) }
      obtain ⟨_, H78, hr79, rfl, hs80⟩ := push_ok _ (H42 : Go.Lg.Heap) (On.call [6] [0, 1, 2, 3, 4, 5] (by kernel_rfl) hs43) (q := q2) (room := 64) (l := l2) (x := (p, (false, ()))) (by first | rfl | omega | (simp only [List.length_nil]; omega) | (simp; done) | (simp; omega))
      have hs80 : On [R, pts n1 (.obj [vi p.1, vi p.2.1]), pts c (.obj [rowC ks 0 S.length 0 S.length false, vi hand, .ptr q0 0, .ptr q1 0, .ptr q2 0]), pts ks (rowO NI true 0 S), ringP EN q0 64 l0, ringP EN q1 64 l1, ringP EN q2 64 (l2 ++ [(p, (false, ()))])] H78 := On.flat hs80
      refine Wp.regionSeq [(6, .y (.one (.ptr q2 0)), H42), (7, .y (.agg [vi p.1, vi p.2.1]), H42), (9, xi 0, H78)] [(6, xi 0)] H78
        (cast (And.intro (ob_load_ptr (P := pg) (A := an) (H := H42) (t := 78) (ty := 0) (id := c) (off := 4) (n := 1) (cs := [rowC ks 0 S.length 0 S.length false, vi hand, .ptr q0 0, .ptr q1 0, .ptr q2 0]) (cs' := [.ptr q2 0]) (v := .one (.ptr q2 0)) (On.at hs43 2 rfl) (by kernel_rfl) (by kernel_rfl) (by kernel_rfl) (by kernel_rfl)) (And.intro (ob_load_ptr (P := pg) (A := an) (H := H42) (t := 38) (ty := 0) (id := n1) (off := 0) (n := 2) (cs := [vi p.1, vi p.2.1]) (cs' := [vi p.1, vi p.2.1]) (v := .agg [vi p.1, vi p.2.1]) (On.at hs43 1 rfl) (by kernel_rfl) (by kernel_rfl) (by kernel_rfl) (by kernel_rfl)) (And.intro (ob_call (P := pg) (A := an) (H := H42) (g := 42) (vals := [.y (.one (.ptr q2 0)), .y (.agg [vi p.1, vi p.2.1, vb false])]) (xs0 := [.one (.ptr q2 0), .agg [vi p.1, vi p.2.1, vb false]]) (res := [.one (vi 0)]) (ats := #[]) (ty := 0) (v := xi 0) (H' := H78) [.tmp 0, .tmp 1] (by kernel_rfl) (by kernel_rfl) hr79 (by kernel_rfl)) trivial))) (by kernel_rfl)) (by kernel_rfl) ?_
      refine Wp.gen (cs := [R, pts n1 (.obj [vi p.1, vi p.2.1]), pts c (.obj [rowC ks 0 S.length 0 S.length false, vi hand, .ptr q0 0, .ptr q1 0, .ptr q2 0]), pts ks (rowO NI true 0 S), ringP EN q0 64 l0, ringP EN q1 64 l1, ringP EN q2 64 (l2 ++ [(p, (false, ()))])]) hs80 ?_
      intro H81 hs82
      refine Wp.ret ?_
      refine ⟨Or.inr rfl, [.one (vi 0)], (by kernel_rfl), ?_⟩
      exact .inr (.inr (.inr (.inr (⟨rfl, by omega, by omega, by omega, by omega, rfl, (On.pick [0, 2, 3, 4, 5, 6] [1] (by kernel_rfl) hs82)⟩))))
  ·
   have hcall83 : Runs pg an 31 [.one (.ptr c 0)] H2 [.one (vb true)] H2 := by
    refine runs_of ?_
    refine Runs.of (fn := Try.f31) Try.func31 rfl (by kernel_rfl) [(0, .y (.one (.ptr c 0)))] (by kernel_rfl) ?_
    refine Wp.regionSeq [] [(0, .y (.one (.ptr c 0)))] H2
      (cast trivial (by kernel_rfl)) (by kernel_rfl) ?_
    refine Wp.regionSeq [(6, .y (.one (rowC ks 0 S.length 0 S.length false)), H2), (7, xi (S.length : Int), H2), (8, xb true, H2)] [(2, xb true)] H2
      (cast (And.intro (ob_load_ptr (P := pg) (A := an) (H := H2) (t := 22) (ty := 0) (id := c) (off := 0) (n := 1) (cs := [rowC ks 0 S.length 0 S.length false, vi hand, .ptr q0 0, .ptr q1 0, .ptr q2 0]) (cs' := [rowC ks 0 S.length 0 S.length false]) (v := .one (rowC ks 0 S.length 0 S.length false)) (On.at hs3 1 rfl) (by kernel_rfl) (by kernel_rfl) (by kernel_rfl) (by kernel_rfl)) (And.intro (or_len (P := pg) (A := an) (H := H2) (s := NI) (t := 22) (ty := 0) (pu := true) (capd := false) (id := ks) (d := 0) (o := 0) (n := S.length) (l := S) (e := (S.length : Int)) (On.at hs3 2 rfl) (by kernel_rfl) (by first | rfl | omega | (simp only [List.length_nil]; omega) | (simp; done) | (simp; omega))) (And.intro (ob_raw (P := pg) (A := an) (vals := [xi (S.length : Int), xi 0]) (H := H2) (op := .binOp .gtr 3 (.tmp 0) (.tmp 1) 3) (ty := 0) (r := xb (decide (((S.length : Int) : Int) > 0))) (v := xb true) (by kernel_rfl) (congrArg (fun z => xb z) (decide_eq_true (by omega)))) trivial))) (by kernel_rfl)) (by kernel_rfl) ?_
    refine Wp.ret ?_
    exact ⟨Or.inr rfl, [.one (vb true)], (by kernel_rfl), ⟨rfl, rfl⟩⟩
   have hcall84 : Runs pg an 40 [.one (vi kk)] H2 [.one (vb false)] H2 := by
    refine runs_of ?_
    refine Runs.of (fn := Try.f40) Try.func40 rfl (by kernel_rfl) [(0, xi kk)] (by kernel_rfl) ?_
    refine Wp.regionSeq [] [(0, xi kk)] H2
      (cast trivial (by kernel_rfl)) (by kernel_rfl) ?_
    refine Wp.regionSeq [(1, xb true, H2), (4, xb false, H2)] [(2, xb false)] H2
      (cast (And.intro (ob_raw (P := pg) (A := an) (vals := [xi kk, xi 0]) (H := H2) (op := .binOp .geq 3 (.tmp 0) (.tmp 1) 3) (ty := 0) (r := xb (decide ((kk : Int) ≥ 0))) (v := xb true) (by kernel_rfl) (congrArg (fun z => xb z) (decide_eq_true (by omega)))) (And.intro (ob_raw (P := pg) (A := an) (vals := [xi kk, xi 3]) (H := H2) (op := .binOp .lss 3 (.tmp 0) (.tmp 1) 3) (ty := 0) (r := xb (decide ((kk : Int) < 3))) (v := xb false) (by kernel_rfl) (congrArg (fun z => xb z) (decide_eq_false (by omega)))) trivial)) (by kernel_rfl)) (by kernel_rfl) ?_
    refine Wp.ret ?_
    exact ⟨Or.inr rfl, [.one (vb false)], (by kernel_rfl), ⟨rfl, rfl⟩⟩
   refine Wp.regionSeq [(1, xb true, H2), (5, xb false, H2)] [(0, .y (.one (.ptr c 0))), (1, xi kk), (5, .y (.one (.ptr n1 0))), (19, xb true)] H2
     (cast (And.intro (ob_call (P := pg) (A := an) (H := H2) (g := 31) (vals := [.y (.one (.ptr c 0))]) (xs0 := [.one (.ptr c 0)]) (res := [.one (vb true)]) (ats := #[]) (ty := 0) (v := xb true) (H' := H2) [.tmp 0] (by kernel_rfl) (by kernel_rfl) hcall83 (by kernel_rfl)) (And.intro (ob_call (P := pg) (A := an) (H := H2) (g := 40) (vals := [xi kk]) (xs0 := [.one (vi kk)]) (res := [.one (vb false)]) (ats := #[]) (ty := 0) (v := xb false) (H' := H2) [.tmp 0] (by kernel_rfl) (by kernel_rfl) hcall84 (by kernel_rfl)) trivial)) (by kernel_rfl)) (by kernel_rfl) ?_
   refine Wp.condT (by kernel_rfl) ?_
   refine Wp.regionSeq [] [(6, xi 1)] H2
     (cast trivial (by kernel_rfl)) (by kernel_rfl) ?_
   refine Wp.ret ?_
   refine ⟨Or.inr rfl, [.one (vi 1)], (by kernel_rfl), ?_⟩
   exact .inl ⟨by omega, rfl, (On.pick [0, 1, 2, 3, 4, 5] [6] (by kernel_rfl) hs3)⟩
 ·
  have hcall85 : Runs pg an 31 [.one (.ptr c 0)] H2 [.one (vb true)] H2 := by
   refine runs_of ?_
   refine Runs.of (fn := Try.f31) Try.func31 rfl (by kernel_rfl) [(0, .y (.one (.ptr c 0)))] (by kernel_rfl) ?_
   refine Wp.regionSeq [] [(0, .y (.one (.ptr c 0)))] H2
     (cast trivial (by kernel_rfl)) (by kernel_rfl) ?_
   refine Wp.regionSeq [(6, .y (.one (rowC ks 0 S.length 0 S.length false)), H2), (7, xi (S.length : Int), H2), (8, xb true, H2)] [(2, xb true)] H2
     (cast (And.intro (ob_load_ptr (P := pg) (A := an) (H := H2) (t := 22) (ty := 0) (id := c) (off := 0) (n := 1) (cs := [rowC ks 0 S.length 0 S.length false, vi hand, .ptr q0 0, .ptr q1 0, .ptr q2 0]) (cs' := [rowC ks 0 S.length 0 S.length false]) (v := .one (rowC ks 0 S.length 0 S.length false)) (On.at hs3 1 rfl) (by kernel_rfl) (by kernel_rfl) (by kernel_rfl) (by kernel_rfl)) (And.intro (or_len (P := pg) (A := an) (H := H2) (s := NI) (t := 22) (ty := 0) (pu := true) (capd := false) (id := ks) (d := 0) (o := 0) (n := S.length) (l := S) (e := (S.length : Int)) (On.at hs3 2 rfl) (by kernel_rfl) (by first | rfl | omega | (simp only [List.length_nil]; omega) | (simp; done) | (simp; omega))) (And.intro (ob_raw (P := pg) (A := an) (vals := [xi (S.length : Int), xi 0]) (H := H2) (op := .binOp .gtr 3 (.tmp 0) (.tmp 1) 3) (ty := 0) (r := xb (decide (((S.length : Int) : Int) > 0))) (v := xb true) (by kernel_rfl) (congrArg (fun z => xb z) (decide_eq_true (by omega)))) trivial))) (by kernel_rfl)) (by kernel_rfl) ?_
   refine Wp.ret ?_
   exact ⟨Or.inr rfl, [.one (vb true)], (by kernel_rfl), ⟨rfl, rfl⟩⟩
  have hcall86 : Runs pg an 40 [.one (vi kk)] H2 [.one (vb false)] H2 := by
   refine runs_of ?_
   refine Runs.of (fn := Try.f40) Try.func40 rfl (by kernel_rfl) [(0, xi kk)] (by kernel_rfl) ?_
   refine Wp.regionSeq [] [(0, xi kk)] H2
     (cast trivial (by kernel_rfl)) (by kernel_rfl) ?_
   refine Wp.regionSeq [(1, xb false, H2)] [(2, xb false)] H2
     (cast (And.intro (ob_raw (P := pg) (A := an) (vals := [xi kk, xi 0]) (H := H2) (op := .binOp .geq 3 (.tmp 0) (.tmp 1) 3) (ty := 0) (r := xb (decide ((kk : Int) ≥ 0))) (v := xb false) (by kernel_rfl) (congrArg (fun z => xb z) (decide_eq_false (by omega)))) trivial) (by kernel_rfl)) (by kernel_rfl) ?_
   refine Wp.ret ?_
   exact ⟨Or.inr rfl, [.one (vb false)], (by kernel_rfl), ⟨rfl, rfl⟩⟩
  refine Wp.regionSeq [(1, xb true, H2), (5, xb false, H2)] [(0, .y (.one (.ptr c 0))), (1, xi kk), (5, .y (.one (.ptr n1 0))), (19, xb true)] H2
    (cast (And.intro (ob_call (P := pg) (A := an) (H := H2) (g := 31) (vals := [.y (.one (.ptr c 0))]) (xs0 := [.one (.ptr c 0)]) (res := [.one (vb true)]) (ats := #[]) (ty := 0) (v := xb true) (H' := H2) [.tmp 0] (by kernel_rfl) (by kernel_rfl) hcall85 (by kernel_rfl)) (And.intro (ob_call (P := pg) (A := an) (H := H2) (g := 40) (vals := [xi kk]) (xs0 := [.one (vi kk)]) (res := [.one (vb false)]) (ats := #[]) (ty := 0) (v := xb false) (H' := H2) [.tmp 0] (by kernel_rfl) (by kernel_rfl) hcall86 (by kernel_rfl)) trivial)) (by kernel_rfl)) (by kernel_rfl) ?_
  refine Wp.condT (by kernel_rfl) ?_
  refine Wp.regionSeq [] [(6, xi 1)] H2
    (cast trivial (by kernel_rfl)) (by kernel_rfl) ?_
  refine Wp.ret ?_
  refine ⟨Or.inr rfl, [.one (vi 1)], (by kernel_rfl), ?_⟩
  exact .inl ⟨by omega, rfl, (On.pick [0, 1, 2, 3, 4, 5] [6] (by kernel_rfl) hs3)⟩
end Go.Proofs.Ytjdnhbnpdbpgbaa
