/-
  Wheel: the frame of WheelEvens. (Printed by sx/r02e.py.)
-/
import Derived.Test.YtoieblpjklbmoaaR02ES
import Derived.Test.YtoieblpjklbmoaaX35
namespace Go.Proofs.Ytoieblpjklbmoaa.E
open Go.Lg
set_option linter.unusedVariables false
set_option maxRecDepth 100000
set_option maxHeartbeats 8000000
set_option linter.unusedSimpArgs false
def liveT : List (Nat × List (Nat × List Nat)) := [(4, [(0, [1]), (1, [1, 3, 4]), (2, [1, 3, 4, 5]), (3, [3, 4, 5, 7, 8]), (4, [3, 4, 5, 7, 8, 9, 10]), (5, [3, 5, 7, 9, 10, 42]), (6, [2]), (7, [3, 5, 7, 9, 10]), (8, [3, 5, 7, 9, 10]), (9, [3, 5, 7, 9, 10]), (10, [3, 5, 7, 9, 10]), (11, [2])]),
  (11, [(0, [0, 1, 5]), (1, [0, 1, 5, 11]), (2, [6, 7, 8]), (3, [0, 1, 5, 15]), (4, [6, 7, 8]), (5, [0, 1, 5, 24]), (6, [0, 1, 5, 24, 25]), (7, [0, 1, 5, 9, 24]), (8, [0, 1, 5, 10, 24]), (9, [0, 1, 5, 10, 24, 36]), (10, [6, 7, 8]), (11, [0, 1, 5, 24]), (12, [6, 7, 8])]),
  (13, [(0, [0]), (1, [0, 9]), (2, [2]), (3, [0, 3]), (4, [3, 10, 11, 12]), (5, [3, 10, 11, 12, 13]), (6, [3, 5, 10, 11, 12]), (7, [3, 5, 10, 11, 12, 18]), (8, [2]), (9, [3, 10, 11, 12]), (10, [3, 10, 11, 12]), (11, [3, 22]), (12, [3, 22, 23]), (13, [3, 6, 22]), (14, [3, 22, 28]), (15, [2]), (16, [3, 22]), (17, [2])]),
  (16, [(0, []), (1, [1, 2, 3]), (2, [1, 2, 3, 4, 5]), (3, [1, 2, 3, 4, 5, 6, 7]), (4, [0])]),
  (20, [(0, [0, 1]), (1, [0, 1, 10]), (2, [4]), (3, [0, 1, 5]), (4, [0, 1, 5, 14]), (5, [0, 1, 5]), (6, [0, 1, 5, 25]), (7, [4]), (8, [4])]),
  (21, [(0, []), (1, [0])]),
  (22, [(0, [0, 1, 4]), (1, [0, 1, 4, 8]), (2, [0, 1, 4]), (3, [0, 1, 4])]),
  (24, [(0, [0, 1]), (1, [0, 1, 5]), (2, [0, 1, 5, 9]), (3, [0, 1, 5]), (4, [0, 1, 5, 18]), (5, [4]), (6, [4])]),
  (25, [(0, [0, 1]), (1, [0, 1, 6]), (2, [0, 1, 6, 13]), (3, [4, 5]), (4, [0, 1, 17]), (5, [4, 5]), (6, [0, 1, 7]), (7, [0, 1, 7, 19, 20]), (8, [0, 1, 7, 19, 20, 21]), (9, [0, 1, 7, 8, 19, 20]), (10, [0, 1, 7, 8, 9, 19, 20]), (11, [0, 1, 7, 8, 9, 19, 20, 34]), (12, [0, 1, 7, 8, 9, 19, 20]), (13, [0, 1, 7, 19, 20]), (14, [0, 1, 7, 19, 20]), (15, [4, 5])]),
  (29, [(0, [0]), (1, [2])])]
def loopT : List (Nat × List (Nat × (List Nat × Bool))) := [(11, [(6, ([0, 1, 5, 24], false))]),
  (13, [(5, ([3, 10, 11, 12], false)), (12, ([3, 22], false))]),
  (20, [(4, ([0, 1, 5], false))]),
  (22, [(1, ([0, 1, 4], false))]),
  (24, [(2, ([0, 1, 5], false))]),
  (25, [(8, ([0, 1, 7, 19, 20], false)), (11, ([0, 1, 7, 8, 9, 19, 20], false))])]
def maskT : List (Nat × List (Nat × List (Nat × (Bool × List Nat)))) := []
def tab {α : Type} (T : List (Nat × List (Nat × α))) (f r : Nat) : Option α := (T.lookup f).bind (List.lookup r)
def specT (f : Nat) : Option (List Y → Go.Lg.Heap → Option (List Y × Go.Lg.Heap)) := if f = 17 ∨ f = 18 then some evSp else if f = 19 then some usSp else if f = 23 then some grownSp else none
abbrev an : Ann := { pureSl := fun _ => true, dryB := fun t => t == 22, pureFn := fun f => [11, 13, 16, 20, 21, 24, 25, 29].contains f, live := tab liveT, loop := tab loopT, mask := fun f r i => (tab maskT f r).bind (List.lookup i), may := fun f => [4, 11, 13, 16, 20, 21, 22, 24, 25, 29].contains f, spec := specT }
theorem spec_ok : ∀ f sp, an.spec f = some sp → SpOk pg f sp ∧ SpHid sp := by
  intro f sp h
  change specT f = some sp at h
  unfold specT at h
  split at h
  · rename_i hf
    cases h
    rcases hf with rfl | rfl
    · exact ⟨ev_ok fn17r, ev_hid⟩
    · exact ⟨ev_ok fn18r, ev_hid⟩
  split at h
  · rename_i hf; subst hf; cases h; exact ⟨us_ok, us_hid⟩
  split at h
  · rename_i hf; subst hf; cases h; exact ⟨grown_ok, grown_hid⟩
  · cases h
theorem aok : AnnOk pg an := annOk_of (by kernel_rfl) spec_ok
abbrev UL : List Int := [0, 1, 0, 2, 0, 1, 0]
theorem fn16 : PureC pg an 16 [] [.one (vb true)] := pure_of 400 (by kernel_rfl)
theorem fn21 : PureC pg an 21 [] [.one (sv NI false false true UL)] := pure_of 100 (by kernel_rfl)
/-- Even, told -/
theorem ev_t (f : Nat) (hm : an.may f = false) (hs : an.spec f = some evSp) (R : HP) (H : Go.Lg.Heap) (w0 w1 w2 : Int) (hs0 : On [R] H) (ho : okVb w0 w1 w2 = true) :
    ∃ rs H', Runs pg an f [.agg [vi w0, vi w1, vi w2]] H rs H' ∧ ∃ k, rs = [.one (rowC k 0 (evn w0 w1 w2).length 0 (evn w0 w1 w2).length false), .one (vi 0)] ∧ On [R, pts k (rowO NI true 0 (evn w0 w1 w2))] H' := by
  refine ⟨_, _, Runs.spec hm hs (show evSp _ _ = some _ from if_pos ho), H.length, by unfold rowC; rw [Nat.zero_add], ?_⟩
  have := On.new (tr NI true (evn w0 w1 w2)) hs0
  rw [show rowO NI true 0 (evn w0 w1 w2) = tr NI true (evn w0 w1 w2) by unfold rowO tr; rw [Nat.zero_add]]
  exact this
theorem ev_f (f : Nat) (hm : an.may f = false) (hs : an.spec f = some evSp) (R : HP) (H : Go.Lg.Heap) (w0 w1 w2 : Int) (hs0 : On [R] H) (ho : okVb w0 w1 w2 = false) :
    ∃ rs H', Runs pg an f [.agg [vi w0, vi w1, vi w2]] H rs H' ∧ rs = [.one nilI, .one (vi 1)] ∧ On [R] H' := by
  refine ⟨_, _, Runs.spec hm hs (show evSp _ _ = some _ from if_neg (by simp [ho])), rfl, hs0⟩
theorem us_t (R : HP) (H : Go.Lg.Heap) (hs0 : On [R] H) :
    ∃ rs H', Runs pg an 19 [] H rs H' ∧ ∃ k, rs = [.one (rowC k 0 UL.length 0 UL.length false)] ∧ On [R, pts k (rowO NI true 0 UL)] H' :=
  ⟨_, _, Runs.spec (sp := usSp) rfl rfl (show usSp _ _ = some _ from rfl), H.length, rfl, On.new (tr NI true UL) hs0⟩
theorem gr_t (R : HP) (H : Go.Lg.Heap) (k : Nat) (l : List Int) (n : Nat) (mk : Int) (hs0 : On [R, pts k (rowO NI true 0 l)] H) (hn : n = l.length) (hl : (l.length : Int) ≤ 1000000) :
    ∃ rs H', Runs pg an 23 [.one (rowC k 0 l.length 0 n false), .one (vi mk)] H rs H' ∧ rs = [] ∧ On [R, pts k (rowO NI true 0 l)] H' := by
  subst hn
  refine ⟨_, _, Runs.spec (sp := grownSp) rfl rfl (show grownSp _ _ = some ([], H) from ?_), rfl, hs0⟩
  have h := On.at hs0 1 rfl
  unfold grownSp
  show (match H[k]? with | some (.row _ true d st' sz _) => _ | _ => _) = _
  rw [h]
  exact if_pos ⟨by simp, Nat.le_refl _, by simp, rfl, by omega⟩
theorem gr_n (R : HP) (H : Go.Lg.Heap) (mk : Int) (hs0 : On [R] H) : ∃ rs H', Runs pg an 23 [.one nilI, .one (vi mk)] H rs H' ∧ rs = [] ∧ On [R] H' :=
  ⟨_, _, Runs.spec (sp := grownSp) rfl rfl (show grownSp _ _ = some ([], H) from rfl), rfl, hs0⟩
theorem rep_next {L : List Int} {i v : Int} (h0 : 0 ≤ i) (hi : i < (L.length : Int)) (h : L.take i.toNat = List.replicate i.toNat v) : (L.set i.toNat v).take (i + 1).toNat = List.replicate (i + 1).toNat v := by
  rw [show (i + 1).toNat = i.toNat + 1 by omega, List.take_add_one, List.take_set_of_le (Nat.le_refl _), h, List.getElem?_set_self (by omega), List.replicate_succ']
  rfl
theorem rep_end {L : List Int} {i v : Int} {n : Nat} (h0 : 0 ≤ i) (hi : (n : Int) ≤ i) (hn : (L.length : Int) = n) (hn2 : i ≤ n) (h : L.take i.toNat = List.replicate i.toNat v) : L = List.replicate n v := by
  rw [show i.toNat = n by omega, List.take_of_length_le (by omega)] at h
  exact h
theorem rep_el {n : Nat} {v x : Int} {i : Int} (h : (List.replicate n v)[i.toNat]? = some x) : x = v := by
  rw [List.getElem?_replicate] at h
  split at h
  · cases h; rfl
  · cases h
end Go.Proofs.Ytoieblpjklbmoaa.E
