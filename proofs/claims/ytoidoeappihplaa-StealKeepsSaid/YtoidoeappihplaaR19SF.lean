/-
  Steal: what is joined. (Printed by sx/r19s.py.)
-/
import Derived.Test.YtoidoeappihplaaR19SD
namespace Go.Proofs.Ytoidoeappihplaa
open Go.Lg
set_option linter.unusedVariables false
set_option maxRecDepth 100000
set_option maxHeartbeats 8000000
set_option linter.unusedSimpArgs false
abbrev pin (l : List EN.T) : List EN.T := l.map fun x => (x.1, (true, ()))
theorem nd_at {A B : List PN.T} {q : List EN.T} {ks : List PN.T} {i : Int} {x : EN.T} (h : (A ++ (pids q ++ B)).Nodup) (h0 : 0 ≤ i) (hx : q[i.toNat]? = some x) (hk : ks = A ++ pids (q.take i.toNat)) : memB PN x.1 ks = false := by
  subst hk
  rw [Bool.eq_false_iff]
  intro hm
  rw [memB_iff rfl] at hm
  rw [List.nodup_append] at h
  obtain ⟨_, h2, h3⟩ := h
  rcases List.mem_append.1 hm with hm | hm
  · exact h3 _ hm _ (List.mem_append_left _ (List.mem_map.2 ⟨x, List.mem_of_getElem? hx, rfl⟩)) rfl
  · rw [List.nodup_append] at h2
    obtain ⟨y, hy, he⟩ := List.mem_map.1 hm
    obtain ⟨j, hj, rfl⟩ := List.mem_take_iff_getElem.1 hy
    obtain ⟨hi, rfl⟩ := List.getElem?_eq_some_iff.1 hx
    have := List.pairwise_iff_getElem.1 h2.1 j i.toNat (by simp; omega) (by simpa using hi) (by omega)
    simp only [List.getElem_map] at this
    exact this he
theorem pids_step {A : List PN.T} {q : List EN.T} {ks : List PN.T} {i : Int} {x : EN.T} (h0 : 0 ≤ i) (hx : q[i.toNat]? = some x) (hk : ks = A ++ pids (q.take i.toNat)) : ks ++ [x.1] = A ++ pids (q.take (i + 1).toNat) := by
  subst hk
  rw [show (i + 1).toNat = i.toNat + 1 by omega, List.take_add_one, hx]
  simp
theorem pids_end {A : List PN.T} {q : List EN.T} {ks : List PN.T} {i : Int} (hi : (q.length : Int) ≤ i) (hk : ks = A ++ pids (q.take i.toNat)) : ks = A ++ pids q := by
  rw [hk, List.take_of_length_le (by omega)]
theorem nd_snoc {ks : List PN.T} {x : PN.T} (h : ks.Nodup) (hm : memB PN x ks = false) : (ks ++ [x]).Nodup := by
  rw [List.nodup_append]
  refine ⟨h, by simp, fun a ha b hb => ?_⟩
  simp at hb
  subst hb
  rintro rfl
  exact not_memB rfl hm ha
theorem pin_step {q : List EN.T} {i : Int} {x : EN.T} (h0 : 0 ≤ i) (hx : q[i.toNat]? = some x) : pin (q.take i.toNat) ++ [(x.1, (true, ()))] = pin (q.take (i + 1).toNat) := by
  rw [show (i + 1).toNat = i.toNat + 1 by omega, List.take_add_one, hx]
  simp
theorem pin_end {q : List EN.T} {i : Int} (hi : (q.length : Int) ≤ i) : pin (q.take i.toNat) = pin q := by rw [List.take_of_length_le (by omega)]
def JoinOk (m l0 l1 l2 : List EN.T) : Prop := (pids m).Nodup ∧ (∀ p ∈ pids m, p ∉ pids l0) ∧ (∀ p ∈ pids m, p ∉ pids l1) ∧ (∀ p ∈ pids m, p ∉ pids l2)
def JoinBad (m l0 l1 l2 : List EN.T) : Prop := ¬ JoinOk m l0 l1 l2
theorem not_in {x : EN.T} {q : List EN.T} {i : Int} {l : List EN.T} (h : ∀ p ∈ pids q, p ∉ pids l) (hx : q[i.toNat]? = some x) : posI x.1 l < 0 := posI_neg.2 (h _ (List.mem_map.2 ⟨x, List.mem_of_getElem? hx, rfl⟩))
theorem out_snoc {x : PN.T} {ks : List PN.T} {l : List EN.T} (h : ∀ p ∈ ks, p ∉ pids l) (hx : posI x l < 0) : ∀ p ∈ ks ++ [x], p ∉ pids l := by
  intro p hp
  rcases List.mem_append.1 hp with hp | hp
  · exact h p hp
  · simp at hp; subst hp; exact posI_neg.1 hx
theorem join_ok (R : HP) (H : Go.Lg.Heap) (c ks q0 q1 q2 : Nat) (S : List Int) (hand : Int) (l0 l1 l2 : List EN.T) (k d o : Nat) (cp : Bool) (L m : List EN.T) (kk : Int) (hs : On [R, pts c (.obj [rff ks S, vi hand, .ptr q0 0, .ptr q1 0, .ptr q2 0]), pts ks (rowO NI true 0 S), ringP EN q0 64 l0, ringP EN q1 64 l1, ringP EN q2 64 l2, pts k (rowO EN true d L)] H) (hS : 3 ≤ (S.length : Int)) (hT : (S.length : Int) ≤ 64) (b0 : (l0.length : Int) ≤ 64) (b1 : (l1.length : Int) ≤ 64) (b2 : (l2.length : Int) ≤ 64) (ho : o + m.length ≤ L.length) (hl : (L.drop o).take m.length = m) (hm : (m.length : Int) ≤ 65536) (hk0 : 0 ≤ kk) (hk1 : kk < 3) : ∃ rs H', Runs pg an 28 [.one (.ptr c 0), .one (vi kk), .one (rowC k d L.length o m.length cp)] H rs H' ∧ ((JoinBad m l0 l1 l2 ∧ rs = [.one (vi 1)] ∧ On [R, pts c (.obj [rff ks S, vi hand, .ptr q0 0, .ptr q1 0, .ptr q2 0]), pts ks (rowO NI true 0 S), ringP EN q0 64 l0, ringP EN q1 64 l1, ringP EN q2 64 l2, pts k (rowO EN true d L)] H') ∨ (JoinOk m l0 l1 l2 ∧ kk = 0 ∧ 64 < (l0.length : Int) + m.length ∧ rs = [.one (vi 2)] ∧ On [R, pts c (.obj [rff ks S, vi hand, .ptr q0 0, .ptr q1 0, .ptr q2 0]), pts ks (rowO NI true 0 S), ringP EN q0 64 l0, ringP EN q1 64 l1, ringP EN q2 64 l2, pts k (rowO EN true d L)] H') ∨ (JoinOk m l0 l1 l2 ∧ kk = 0 ∧ (l0.length : Int) + m.length ≤ 64 ∧ rs = [.one (vi 0)] ∧ On [R, pts c (.obj [rff ks S, vi hand, .ptr q0 0, .ptr q1 0, .ptr q2 0]), pts ks (rowO NI true 0 S), ringP EN q0 64 (l0 ++ pin m), ringP EN q1 64 l1, ringP EN q2 64 l2, pts k (rowO EN true d L)] H') ∨ (JoinOk m l0 l1 l2 ∧ kk = 1 ∧ 64 < (l1.length : Int) + m.length ∧ rs = [.one (vi 2)] ∧ On [R, pts c (.obj [rff ks S, vi hand, .ptr q0 0, .ptr q1 0, .ptr q2 0]), pts ks (rowO NI true 0 S), ringP EN q0 64 l0, ringP EN q1 64 l1, ringP EN q2 64 l2, pts k (rowO EN true d L)] H') ∨ (JoinOk m l0 l1 l2 ∧ kk = 1 ∧ (l1.length : Int) + m.length ≤ 64 ∧ rs = [.one (vi 0)] ∧ On [R, pts c (.obj [rff ks S, vi hand, .ptr q0 0, .ptr q1 0, .ptr q2 0]), pts ks (rowO NI true 0 S), ringP EN q0 64 l0, ringP EN q1 64 (l1 ++ pin m), ringP EN q2 64 l2, pts k (rowO EN true d L)] H') ∨ (JoinOk m l0 l1 l2 ∧ kk = 2 ∧ 64 < (l2.length : Int) + m.length ∧ rs = [.one (vi 2)] ∧ On [R, pts c (.obj [rff ks S, vi hand, .ptr q0 0, .ptr q1 0, .ptr q2 0]), pts ks (rowO NI true 0 S), ringP EN q0 64 l0, ringP EN q1 64 l1, ringP EN q2 64 l2, pts k (rowO EN true d L)] H') ∨ (JoinOk m l0 l1 l2 ∧ kk = 2 ∧ (l2.length : Int) + m.length ≤ 64 ∧ rs = [.one (vi 0)] ∧ On [R, pts c (.obj [rff ks S, vi hand, .ptr q0 0, .ptr q1 0, .ptr q2 0]), pts ks (rowO NI true 0 S), ringP EN q0 64 l0, ringP EN q1 64 l1, ringP EN q2 64 (l2 ++ pin m), pts k (rowO EN true d L)] H')) := by
 refine Runs.of (fn := Try.f28) Try.func28 rfl (by kernel_rfl) [(0, yp c), (1, xi kk), (2, .y (.one (rowC k d L.length o m.length cp)))] (by kernel_rfl) ?_
 refine rS0 [(0, yp c), (1, xi kk), (2, .y (.one (rowC k d L.length o m.length cp)))] (by kernel_rfl) (by kernel_rfl) ?_
 refine Wp.seq ?_
 have hcall1 : Runs pg an 33 [.one (.ptr c 0)] H [.one (vb true)] H := by
  refine runs_of ?_
  refine Runs.of (fn := Try.f33) Try.func33 rfl (by kernel_rfl) [(0, yp c)] (by kernel_rfl) ?_
  refine rS0 [(0, yp c)] (by kernel_rfl) (by kernel_rfl) ?_
  refine rSq [(6, .y (.one (rff ks S)), H), (7, xi (S.length : Int), H), (8, xb true, H)] [(2, xb true)] H
    (cast (Jai (Ja (t := 36) (off := 0) (v := .one (rff ks S)) (On.at hs 1 rfl) (by kernel_rfl)) (Jai (Jg (H := H) (s := NI) (t := 36) (ty := 0) (pu := true) (capd := false) (id := ks) (d := 0) (o := 0) (n := S.length) (l := S) (e := (S.length : Int)) (On.at hs 2 rfl) (by kernel_rfl) (by first | rfl | omega | (simp; done) | (simp; omega))) (Jai (Je (H := H) (t := 3) (u := 3) (a := (S.length : Int)) (b := 0) (by omega)) trivial))) (by kernel_rfl)) (by kernel_rfl) ?_
  refine Wp.ret ?_
  exact ⟨Or.inr rfl, [.one (vb true)], (by kernel_rfl), ⟨rfl, rfl⟩⟩
 have hcall2 : Runs pg an 34 [.one (vi kk)] H [.one (vb true)] H := by
  refine runs_of ?_
  refine Runs.of (fn := Try.f34) Try.func34 rfl (by kernel_rfl) [(0, xi kk)] (by kernel_rfl) ?_
  refine rS0 [(0, xi kk)] (by kernel_rfl) (by kernel_rfl) ?_
  refine rSq [(1, xb true, H), (4, xb true, H)] [(2, xb true)] H
    (cast (Jai (Jx (H := H) (t := 3) (u := 3) (a := kk) (b := 0) (by omega)) (Jai (Ji (H := H) (t := 3) (u := 3) (a := kk) (b := 3) (by omega)) trivial)) (by kernel_rfl)) (by kernel_rfl) ?_
  refine Wp.ret ?_
  exact ⟨Or.inr rfl, [.one (vb true)], (by kernel_rfl), ⟨rfl, rfl⟩⟩
 refine rSq [(1, xb true, H), (5, xb true, H)] [(0, yp c), (1, xi kk), (2, .y (.one (rowC k d L.length o m.length cp))), (18, xb false)] H
   (cast (Jai (Jb hcall1 (by kernel_rfl)) (Jai (Jb hcall2 (by kernel_rfl)) trivial)) (by kernel_rfl)) (by kernel_rfl) ?_
 refine Wp.condF (by kernel_rfl) (Wp.skip ?_)
 refine rS0 [(0, yp c), (1, xi kk), (2, .y (.one (rowC k d L.length o m.length cp))), (7, .y (.one (nilC)))] (by kernel_rfl) (by kernel_rfl) ?_
 obtain ⟨n3, hn3⟩ : ∃ n, n = List.length (H : Go.Lg.Heap) := ⟨_, rfl⟩
 refine rSq [(0, .y (.one (.mp n3)), (H ++ [cntO PN (ones ([] : List PN.T))]))] [(0, yp c), (1, xi kk), (2, .y (.one (rowC k d L.length o m.length cp))), (7, .y (.one (nilC))), (8, .y (.one (.mp n3)))] (H ++ [cntO PN (ones ([] : List PN.T))])
   (cast (Jai (Jp1 (H := H) (s := PN) (t := 75) (ty := 0) (n := n3) hn3 (by kernel_rfl)) trivial) (by kernel_rfl)) (by kernel_rfl) ?_
 refine Wp.gen (cs := [R, pts c (.obj [rff ks S, vi hand, .ptr q0 0, .ptr q1 0, .ptr q2 0]), pts ks (rowO NI true 0 S), ringP EN q0 64 l0, ringP EN q1 64 l1, ringP EN q2 64 l2, pts k (rowO EN true d L), pts n3 (cntO PN (ones ([] : List PN.T)))]) (On.new' hn3 (cntO PN (ones ([] : List PN.T))) hs) ?_
 intro H4 hs5
 refine Wp.seq ?_
 refine rSq [(1, xi (m.length : Int), H4)] [(0, yp c), (1, xi kk), (7, .y (.one (nilC))), (8, .y (.one (.mp n3))), (20, .y (.one (rowC k d L.length o m.length cp))), (21, xi (m.length : Int)), (22, xi 0)] H4
   (cast (Jai (Jg (H := H4) (s := EN) (t := 22) (ty := 0) (pu := true) (capd := cp) (id := k) (d := d) (o := o) (n := m.length) (l := L) (e := (m.length : Int)) (On.at hs5 6 rfl) (by kernel_rfl) (by first | rfl | omega | (simp; done) | (simp; omega))) trivial) (by kernel_rfl)) (by kernel_rfl) ?_
 refine Wp.block ?_
 have hs6 : On [R, pts c (.obj [rff ks S, vi hand, .ptr q0 0, .ptr q1 0, .ptr q2 0]), pts ks (rowO NI true 0 S), ringP EN q0 64 l0, ringP EN q1 64 l1, ringP EN q2 64 l2, pts k (rowO EN true d L), pts n3 (cntO PN (ones ([] : List PN.T))), itemsP EN (nilC) (pin (m.take (0 : Int).toNat))] H4 := On.shut (cs := [R, pts c (.obj [rff ks S, vi hand, .ptr q0 0, .ptr q1 0, .ptr q2 0]), pts ks (rowO NI true 0 S), ringP EN q0 64 l0, ringP EN q1 64 l1, ringP EN q2 64 l2, pts k (rowO EN true d L), pts n3 (cntO PN (ones ([] : List PN.T)))]) [] [0, 1, 2, 3, 4, 5, 6, 7] (by kernel_rfl) (fun _ _ => by rw [show (pin (m.take (0 : Int).toNat)) = ([] : List EN.T) from by simp]; exact items_nil) hs5
 refine Wp.loop (T := Go.Lg.Heap × Int × C × List PN.T) (fun (t : Go.Lg.Heap × Int × C × List PN.T) => match t with | (H8, i, cv, kz) => (((m.length : Int) - i).toNat : Nat)) (fun (t : Go.Lg.Heap × Int × C × List PN.T) => match t with | (H8, i, cv, kz) => ([(0, yp c), (1, xi kk), (7, .y (.one (cv))), (8, .y (.one (.mp n3))), (20, .y (.one (rowC k d L.length o m.length cp))), (21, xi (m.length : Int)), (22, xi i)] : Env)) (fun (t : Go.Lg.Heap × Int × C × List PN.T) => match t with | (H8, i, cv, kz) => (H8 : Go.Lg.Heap))
   (fun (t : Go.Lg.Heap × Int × C × List PN.T) => match t with | (H8, i, cv, kz) => (On [R, pts c (.obj [rff ks S, vi hand, .ptr q0 0, .ptr q1 0, .ptr q2 0]), pts ks (rowO NI true 0 S), ringP EN q0 64 l0, ringP EN q1 64 l1, ringP EN q2 64 l2, pts k (rowO EN true d L), pts n3 (cntO PN (ones kz)), itemsP EN cv (pin (m.take (i : Int).toNat))] H8 ∧ (0 ≤ i) ∧ (i ≤ (m.length : Int)) ∧ (kz = [] ++ pids (m.take i.toNat)) ∧ (((pin (m.take (i : Int).toNat)).length : Int) = i) ∧ (kz.Nodup) ∧ (∀ p ∈ kz, p ∉ pids l0) ∧ (∀ p ∈ kz, p ∉ pids l1) ∧ (∀ p ∈ kz, p ∉ pids l2) : Prop)) (H4, 0, (nilC), []) (by kernel_rfl) (⟨(On.pick [0, 1, 2, 3, 4, 5, 6, 7, 8] [] (by kernel_rfl) hs6), by omega, by omega, by simp, by simp, by simp, by simp, by simp, by simp⟩) ?_
 rintro ⟨H8, i, cv, kz⟩ ⟨hs9, g1, g2, g3, g4, g5, g6, g7, g8⟩
 show Wp _ _ _ _ [(0, yp c), (1, xi kk), (7, .y (.one (cv))), (8, .y (.one (.mp n3))), (20, .y (.one (rowC k d L.length o m.length cp))), (21, xi (m.length : Int)), (22, xi i)] H8 _
 by_cases c10 : (i : Int) < (m.length : Int)
 ·
  refine rSq [(0, xb true, H8)] [(0, yp c), (1, xi kk), (7, .y (.one (cv))), (8, .y (.one (.mp n3))), (20, .y (.one (rowC k d L.length o m.length cp))), (21, xi (m.length : Int)), (22, xi i), (23, xb true)] H8
    (cast (Jai (Ji (H := H8) (t := 3) (u := 3) (a := i) (b := (m.length : Int)) (by omega)) trivial) (by kernel_rfl)) (by kernel_rfl) ?_
  refine Wp.seq ?_
  refine Wp.condT (by kernel_rfl) (Wp.skip ?_)
  refine Wp.seq (Wp.block ?_)
  obtain ⟨x11, hx11⟩ : ∃ x : EN.T, m[(i : Int).toNat]? = some x := get_of (by first | rfl | omega | (simp; done) | (simp; omega))
  obtain ⟨n12, hn12⟩ : ∃ n, n = List.length (H8 : Go.Lg.Heap) := ⟨_, rfl⟩
  refine rSq [(0, .y (.one (raC k d L.length 3 ((((o : Int) + i) : Int).toNat) 0)), H8), (1, .y (.agg [vi x11.1.1, vi x11.1.2.1, vb x11.2.1]), H8), (2, yp n12, (H8 ++ [.obj [vi 0, vi 0, vb false]])), (3, .tup [], (List.set (α := O) (H8 ++ [.obj [vi 0, vi 0, vb false]]) n12 (.obj [vi x11.1.1, vi x11.1.2.1, vb x11.2.1])))] [(0, yp c), (1, xi kk), (7, .y (.one (cv))), (8, .y (.one (.mp n3))), (10, yp n12), (20, .y (.one (rowC k d L.length o m.length cp))), (21, xi (m.length : Int)), (22, xi i)] (List.set (α := O) (H8 ++ [.obj [vi 0, vi 0, vb false]]) n12 (.obj [vi x11.1.1, vi x11.1.2.1, vb x11.2.1]))
    (cast (Jai (Ju (H := H8) (s := EN) (t := 22) (el := 35) (ty := 0) (pu := true) (capd := cp) (id := k) (d := d) (o := o) (n := m.length) (j := ((((o : Int) + i) : Int).toNat)) (l := L) (i := i) (On.at hs9 6 rfl) Try.underlying22 (by kernel_rfl) (by omega) (by first | rfl | omega | (simp; done) | (simp; omega)) (by first | rfl | omega | (simp; done) | (simp; omega)) (by first | rfl | omega | (simp; done) | (simp; omega))) (Jai (Jv (H := H8) (s := EN) (t := 35) (ty := 0) (pu := true) (id := k) (d := d) (j := ((((o : Int) + i) : Int).toNat)) (o := 0) (n := 3) (l := L) (x := x11) (v := .agg [vi x11.1.1, vi x11.1.2.1, vb x11.2.1]) (On.at hs9 6 rfl) (by kernel_rfl) (by kernel_rfl) (of_content (hl) hx11 (by first | rfl | omega | (simp; done) | (simp; omega))) (by kernel_rfl)) (Jai (Jm (H := H8) (t := 35) (ty := 0) (n := n12) (cs := [vi 0, vi 0, vb false]) hn12 (by kernel_rfl)) (Jai (Jc (t := 35) (off := 0) (v := .agg [vi x11.1.1, vi x11.1.2.1, vb x11.2.1]) (On.at (On.new' hn12 (.obj [vi 0, vi 0, vb false]) hs9) 9 rfl) (by kernel_rfl)) trivial)))) (by kernel_rfl)) (by kernel_rfl) ?_
  refine Wp.gen (cs := [R, pts c (.obj [rff ks S, vi hand, .ptr q0 0, .ptr q1 0, .ptr q2 0]), pts ks (rowO NI true 0 S), ringP EN q0 64 l0, ringP EN q1 64 l1, ringP EN q2 64 l2, pts k (rowO EN true d L), pts n3 (cntO PN (ones kz)), itemsP EN cv (pin (m.take (i : Int).toNat)), pts n12 (.obj [vi x11.1.1, vi x11.1.2.1, vb x11.2.1])]) (On.put (.obj [vi x11.1.1, vi x11.1.2.1, vb x11.2.1]) (On.new' hn12 (.obj [vi 0, vi 0, vb false]) hs9) 9 rfl) ?_
  intro H13 hs14
  rcases Bool.eq_false_or_eq_true ((memB PN x11.1 kz)) with c15 | c15
  ·
   obtain ⟨j16, hg17, hk18⟩ := seek_in (CntOK.flat there_ok) c15
   refine rSq [(2, .y (.agg [vi x11.1.1, vi x11.1.2.1]), H13), (3, xi 1, H13), (5, .tup [.one (vi 1), .one (vi (j16 : Int))], (List.set (α := O) H13 n3 (cntO PN (ones kz)))), (7, .tup [], (List.set (α := O) (List.set (α := O) H13 n3 (cntO PN (ones kz))) n3 (cntO PN ((ones kz).set j16 (x11.1, 2)))))] [(0, yp c), (1, xi kk), (7, .y (.one (cv))), (8, .y (.one (.mp n3))), (10, yp n12), (20, .y (.one (rowC k d L.length o m.length cp))), (21, xi (m.length : Int)), (22, xi i)] (List.set (α := O) (List.set (α := O) H13 n3 (cntO PN (ones kz))) n3 (cntO PN ((ones kz).set j16 (x11.1, 2))))
     (cast (Jai (Ja (t := 33) (off := 0) (v := .agg [vi x11.1.1, vi x11.1.2.1]) (On.at hs14 9 rfl) (by kernel_rfl)) (Jai (Jq (H := H13) (s := PN) (t := 75) (ty := 0) (id := n3) (x := x11.1) (l := ones kz) (v := 1) (On.at hs14 7 rfl) there_ok (got_one (CntOK.flat there_ok) c15)) (Jai (Je1 (H := H13) (s := PN) (t := 75) (ty := 0) (id := n3) (x := x11.1) (l := ones kz) (j := j16) (v := 1) (On.at hs14 7 rfl) there_ok hk18) (Jai (Jf1 (H := (List.set (α := O) H13 n3 (cntO PN (ones kz)))) (s := PN) (t := 75) (ty := 0) (id := n3) (x := x11.1) (l := ones kz) (j := j16) (v0 := 1) (v := 2) (b := (j16 : Int)) (On.at (On.put (cntO PN (ones kz)) hs14 7 rfl) 7 rfl) rfl (ones_get hg17)) trivial)))) (by kernel_rfl)) (by kernel_rfl) ?_
   refine Wp.gen (cs := [R, pts c (.obj [rff ks S, vi hand, .ptr q0 0, .ptr q1 0, .ptr q2 0]), pts ks (rowO NI true 0 S), ringP EN q0 64 l0, ringP EN q1 64 l1, ringP EN q2 64 l2, pts k (rowO EN true d L), pts n3 (cntO PN ((ones kz).set j16 (x11.1, 2))), itemsP EN cv (pin (m.take (i : Int).toNat)), pts n12 (.obj [vi x11.1.1, vi x11.1.2.1, vb x11.2.1])]) (On.put (cntO PN ((ones kz).set j16 (x11.1, 2))) (On.put (cntO PN (ones kz)) hs14 7 rfl) 7 rfl) ?_
   intro H19 hs20
   refine Wp.seq ?_
   refine rSq [(2, .y (.agg [vi x11.1.1, vi x11.1.2.1]), H19), (3, xi 2, H19)] [(0, yp c), (1, xi kk), (7, .y (.one (cv))), (8, .y (.one (.mp n3))), (10, yp n12), (20, .y (.one (rowC k d L.length o m.length cp))), (21, xi (m.length : Int)), (22, xi i), (43, xb true)] H19
     (cast (Jai (Ja (t := 33) (off := 0) (v := .agg [vi x11.1.1, vi x11.1.2.1]) (On.at hs20 9 rfl) (by kernel_rfl)) (Jai (Jq (H := H19) (s := PN) (t := 75) (ty := 0) (id := n3) (x := x11.1) (l := (ones kz).set j16 (x11.1, 2)) (v := 2) (On.at hs20 7 rfl) there_ok (got_set (CntOK.flat there_ok) hk18)) trivial)) (by kernel_rfl)) (by kernel_rfl) ?_
   refine Wp.condT (by kernel_rfl) ?_
   refine rS0 [(6, xi 1)] (by kernel_rfl) (by kernel_rfl) ?_
   refine Wp.ret ?_
   refine ⟨Or.inr rfl, [.one (vi 1)], (by kernel_rfl), ?_⟩
   exact .inl (⟨(fun h => by have := nd_at (A := []) (B := []) (x := x11) (by simpa using h.1) g1 hx11 g3; rw [this] at c15; cases c15), rfl, (On.pick [0, 1, 2, 3, 4, 5, 6] [7, 8, 9] (by kernel_rfl) hs20)⟩)
  ·
   refine rSq [(2, .y (.agg [vi x11.1.1, vi x11.1.2.1]), H13), (3, xi 0, H13), (5, .tup [.one (vi 0), .one (vi ((ones kz).length : Int))], (List.set (α := O) H13 n3 (cntO PN (ones kz ++ [(x11.1, 0)])))), (7, .tup [], (List.set (α := O) (List.set (α := O) H13 n3 (cntO PN (ones kz ++ [(x11.1, 0)]))) n3 (cntO PN (ones (kz ++ [x11.1])))))] [(0, yp c), (1, xi kk), (7, .y (.one (cv))), (8, .y (.one (.mp n3))), (10, yp n12), (20, .y (.one (rowC k d L.length o m.length cp))), (21, xi (m.length : Int)), (22, xi i)] (List.set (α := O) (List.set (α := O) H13 n3 (cntO PN (ones kz ++ [(x11.1, 0)]))) n3 (cntO PN (ones (kz ++ [x11.1]))))
     (cast (Jai (Ja (t := 33) (off := 0) (v := .agg [vi x11.1.1, vi x11.1.2.1]) (On.at hs14 9 rfl) (by kernel_rfl)) (Jai (Jq (H := H13) (s := PN) (t := 75) (ty := 0) (id := n3) (x := x11.1) (l := ones kz) (v := 0) (On.at hs14 7 rfl) there_ok (got_none (CntOK.flat there_ok) c15)) (Jai (Jg1 (H := H13) (s := PN) (t := 75) (ty := 0) (id := n3) (x := x11.1) (l := ones kz) (On.at hs14 7 rfl) there_ok (seek_out (CntOK.flat there_ok) c15)) (Jai (Jh1 (H := (List.set (α := O) H13 n3 (cntO PN (ones kz ++ [(x11.1, 0)])))) (s := PN) (t := 75) (ty := 0) (id := n3) (x := x11.1) (l := kz) (b := ((ones kz).length : Int)) (On.at (On.put (cntO PN (ones kz ++ [(x11.1, 0)])) hs14 7 rfl) 7 rfl) rfl) trivial)))) (by kernel_rfl)) (by kernel_rfl) ?_
   refine Wp.gen (cs := [R, pts c (.obj [rff ks S, vi hand, .ptr q0 0, .ptr q1 0, .ptr q2 0]), pts ks (rowO NI true 0 S), ringP EN q0 64 l0, ringP EN q1 64 l1, ringP EN q2 64 l2, pts k (rowO EN true d L), pts n3 (cntO PN (ones (kz ++ [x11.1]))), itemsP EN cv (pin (m.take (i : Int).toNat)), pts n12 (.obj [vi x11.1.1, vi x11.1.2.1, vb x11.2.1])]) (On.put (cntO PN (ones (kz ++ [x11.1]))) (On.put (cntO PN (ones kz ++ [(x11.1, 0)])) hs14 7 rfl) 7 rfl) ?_
   intro H21 hs22
   refine Wp.seq ?_
   obtain ⟨n24, hn24⟩ : ∃ n, n = List.length (H21 : Go.Lg.Heap) := ⟨_, rfl⟩
   have hz26 := posI_bd x11.1 l0
   have hz31 := posI_bd x11.1 l1
   have hz36 := posI_bd x11.1 l2
   by_cases c41 : (0 : Int) ≤ (posI x11.1 l0)
   ·
    obtain ⟨_, H46, hr47, rfl, hs48⟩ := find_0 _ ((H21 ++ [.obj [vi x11.1.1, vi x11.1.2.1]]) : Go.Lg.Heap) (On.call [1, 2, 3, 4, 5] [0, 6, 7, 8, 9, 10] (by kernel_rfl) (On.new' hn24 (.obj [vi x11.1.1, vi x11.1.2.1]) hs22)) (c := c) (ks := ks) (q0 := q0) (q1 := q1) (q2 := q2) (S := S) (hand := hand) (l0 := l0) (l1 := l1) (l2 := l2) (p := x11.1) (by omega) (by omega) (by first | rfl | omega | (simp; done) | (simp; omega)) (by first | rfl | omega | (simp; done) | (simp; omega)) (by first | rfl | omega | (simp; done) | (simp; omega)) (by omega)
    have hs48 : On [R, pts k (rowO EN true d L), pts n3 (cntO PN (ones (kz ++ [x11.1]))), itemsP EN cv (pin (m.take (i : Int).toNat)), pts n12 (.obj [vi x11.1.1, vi x11.1.2.1, vb x11.2.1]), pts n24 (.obj [vi x11.1.1, vi x11.1.2.1]), pts c (.obj [rff ks S, vi hand, .ptr q0 0, .ptr q1 0, .ptr q2 0]), pts ks (rowO NI true 0 S), ringP EN q0 64 l0, ringP EN q1 64 l1, ringP EN q2 64 l2] H46 := On.flat hs48
    have hcall49 : Runs pg an 44 [.one (.ptr c 0), .agg [vi x11.1.1, vi x11.1.2.1]] H21 [.one (vb true)] H46 := by
     refine runs_of ?_
     refine Runs.of (fn := Try.f44) Try.func44 rfl (by kernel_rfl) [(0, yp c), (1, .y (.agg [vi x11.1.1, vi x11.1.2.1]))] (by kernel_rfl) ?_
     refine rSq [(0, yp n24, (H21 ++ [.obj [vi x11.1.1, vi x11.1.2.1]]))] [(0, yp c), (3, yp n24)] (H21 ++ [.obj [vi x11.1.1, vi x11.1.2.1]])
       (cast (Jai (Jo (H := H21) (t := 33) (ty := 0) (n := n24) (v := .agg [vi x11.1.1, vi x11.1.2.1]) (cs := [vi x11.1.1, vi x11.1.2.1]) hn24 (by kernel_rfl) (by kernel_rfl) (by kernel_rfl)) trivial) (by kernel_rfl)) (by kernel_rfl) ?_
     refine rSq [(1, .y (.agg [vi x11.1.1, vi x11.1.2.1]), (H21 ++ [.obj [vi x11.1.1, vi x11.1.2.1]])), (2, .tup [.one (vi 0), .one (vi (posI x11.1 l0)), .one (vi 0)], H46)] [(7, xi 0)] H46
       (cast (Jai (Ja (t := 33) (off := 0) (v := .agg [vi x11.1.1, vi x11.1.2.1]) (On.at (On.new' hn24 (.obj [vi x11.1.1, vi x11.1.2.1]) hs22) 10 rfl) (by kernel_rfl)) (Jai (Jl hr47 (by kernel_rfl)) trivial)) (by kernel_rfl)) (by kernel_rfl) ?_
     refine rS0 [(4, xb true)] (by kernel_rfl) (by kernel_rfl) ?_
     refine Wp.ret ?_
     exact ⟨Or.inr rfl, [.one (vb true)], (by kernel_rfl), ⟨rfl, rfl⟩⟩
    refine rSq [(2, .y (.agg [vi x11.1.1, vi x11.1.2.1]), H21), (3, xi 1, H21), (8, .y (.agg [vi x11.1.1, vi x11.1.2.1]), H21), (9, xb true, H46)] [(0, yp c), (1, xi kk), (7, .y (.one (cv))), (8, .y (.one (.mp n3))), (10, yp n12), (20, .y (.one (rowC k d L.length o m.length cp))), (21, xi (m.length : Int)), (22, xi i), (43, xb true)] H46
      (cast (Jai (Ja (t := 33) (off := 0) (v := .agg [vi x11.1.1, vi x11.1.2.1]) (On.at hs22 9 rfl) (by kernel_rfl)) (Jai (Jq (H := H21) (s := PN) (t := 75) (ty := 0) (id := n3) (x := x11.1) (l := ones (kz ++ [x11.1])) (v := 1) (On.at hs22 7 rfl) there_ok (got_one (CntOK.flat there_ok) (memB_last (CntOK.flat there_ok)))) (Jai (Ja (t := 33) (off := 0) (v := .agg [vi x11.1.1, vi x11.1.2.1]) (On.at hs22 9 rfl) (by kernel_rfl)) (Jai (Jl hcall49 (by kernel_rfl)) trivial)))) (by kernel_rfl)) (by kernel_rfl) ?_
    refine Wp.gen hs48 ?_
    intro H50 hs51
    refine Wp.condT (by kernel_rfl) ?_
    refine rS0 [(6, xi 1)] (by kernel_rfl) (by kernel_rfl) ?_
    refine Wp.ret ?_
    refine ⟨Or.inr rfl, [.one (vi 1)], (by kernel_rfl), ?_⟩
    exact .inl (⟨(fun h => absurd (not_in h.2.1 hx11 : posI x11.1 l0 < 0) (by omega)), rfl, (On.pick [0, 6, 7, 8, 9, 10, 1] [2, 3, 4, 5] (by kernel_rfl) hs51)⟩)
   ·
    by_cases c56 : (0 : Int) ≤ (posI x11.1 l1)
    ·
     obtain ⟨_, H61, hr62, rfl, hs63⟩ := find_1 _ ((H21 ++ [.obj [vi x11.1.1, vi x11.1.2.1]]) : Go.Lg.Heap) (On.call [1, 2, 3, 4, 5] [0, 6, 7, 8, 9, 10] (by kernel_rfl) (On.new' hn24 (.obj [vi x11.1.1, vi x11.1.2.1]) hs22)) (c := c) (ks := ks) (q0 := q0) (q1 := q1) (q2 := q2) (S := S) (hand := hand) (l0 := l0) (l1 := l1) (l2 := l2) (p := x11.1) (by omega) (by omega) (by first | rfl | omega | (simp; done) | (simp; omega)) (by first | rfl | omega | (simp; done) | (simp; omega)) (by first | rfl | omega | (simp; done) | (simp; omega)) (by omega) (by omega)
     have hs63 : On [R, pts k (rowO EN true d L), pts n3 (cntO PN (ones (kz ++ [x11.1]))), itemsP EN cv (pin (m.take (i : Int).toNat)), pts n12 (.obj [vi x11.1.1, vi x11.1.2.1, vb x11.2.1]), pts n24 (.obj [vi x11.1.1, vi x11.1.2.1]), pts c (.obj [rff ks S, vi hand, .ptr q0 0, .ptr q1 0, .ptr q2 0]), pts ks (rowO NI true 0 S), ringP EN q0 64 l0, ringP EN q1 64 l1, ringP EN q2 64 l2] H61 := On.flat hs63
     have hcall64 : Runs pg an 44 [.one (.ptr c 0), .agg [vi x11.1.1, vi x11.1.2.1]] H21 [.one (vb true)] H61 := by
      refine runs_of ?_
      refine Runs.of (fn := Try.f44) Try.func44 rfl (by kernel_rfl) [(0, yp c), (1, .y (.agg [vi x11.1.1, vi x11.1.2.1]))] (by kernel_rfl) ?_
      refine rSq [(0, yp n24, (H21 ++ [.obj [vi x11.1.1, vi x11.1.2.1]]))] [(0, yp c), (3, yp n24)] (H21 ++ [.obj [vi x11.1.1, vi x11.1.2.1]])
        (cast (Jai (Jo (H := H21) (t := 33) (ty := 0) (n := n24) (v := .agg [vi x11.1.1, vi x11.1.2.1]) (cs := [vi x11.1.1, vi x11.1.2.1]) hn24 (by kernel_rfl) (by kernel_rfl) (by kernel_rfl)) trivial) (by kernel_rfl)) (by kernel_rfl) ?_
      refine rSq [(1, .y (.agg [vi x11.1.1, vi x11.1.2.1]), (H21 ++ [.obj [vi x11.1.1, vi x11.1.2.1]])), (2, .tup [.one (vi 1), .one (vi (posI x11.1 l1)), .one (vi 0)], H61)] [(7, xi 0)] H61
        (cast (Jai (Ja (t := 33) (off := 0) (v := .agg [vi x11.1.1, vi x11.1.2.1]) (On.at (On.new' hn24 (.obj [vi x11.1.1, vi x11.1.2.1]) hs22) 10 rfl) (by kernel_rfl)) (Jai (Jl hr62 (by kernel_rfl)) trivial)) (by kernel_rfl)) (by kernel_rfl) ?_
      refine rS0 [(4, xb true)] (by kernel_rfl) (by kernel_rfl) ?_
      refine Wp.ret ?_
      exact ⟨Or.inr rfl, [.one (vb true)], (by kernel_rfl), ⟨rfl, rfl⟩⟩
     refine rSq [(2, .y (.agg [vi x11.1.1, vi x11.1.2.1]), H21), (3, xi 1, H21), (8, .y (.agg [vi x11.1.1, vi x11.1.2.1]), H21), (9, xb true, H61)] [(0, yp c), (1, xi kk), (7, .y (.one (cv))), (8, .y (.one (.mp n3))), (10, yp n12), (20, .y (.one (rowC k d L.length o m.length cp))), (21, xi (m.length : Int)), (22, xi i), (43, xb true)] H61
       (cast (Jai (Ja (t := 33) (off := 0) (v := .agg [vi x11.1.1, vi x11.1.2.1]) (On.at hs22 9 rfl) (by kernel_rfl)) (Jai (Jq (H := H21) (s := PN) (t := 75) (ty := 0) (id := n3) (x := x11.1) (l := ones (kz ++ [x11.1])) (v := 1) (On.at hs22 7 rfl) there_ok (got_one (CntOK.flat there_ok) (memB_last (CntOK.flat there_ok)))) (Jai (Ja (t := 33) (off := 0) (v := .agg [vi x11.1.1, vi x11.1.2.1]) (On.at hs22 9 rfl) (by kernel_rfl)) (Jai (Jl hcall64 (by kernel_rfl)) trivial)))) (by kernel_rfl)) (by kernel_rfl) ?_
     refine Wp.gen hs63 ?_
     intro H65 hs66
     refine Wp.condT (by kernel_rfl) ?_
     refine rS0 [(6, xi 1)] (by kernel_rfl) (by kernel_rfl) ?_
     refine Wp.ret ?_
     refine ⟨Or.inr rfl, [.one (vi 1)], (by kernel_rfl), ?_⟩
     exact .inl (⟨(fun h => absurd (not_in h.2.2.1 hx11 : posI x11.1 l1 < 0) (by omega)), rfl, (On.pick [0, 6, 7, 8, 9, 10, 1] [2, 3, 4, 5] (by kernel_rfl) hs66)⟩)
    ·
     by_cases c71 : (0 : Int) ≤ (posI x11.1 l2)
     ·
      obtain ⟨_, H76, hr77, rfl, hs78⟩ := find_2 _ ((H21 ++ [.obj [vi x11.1.1, vi x11.1.2.1]]) : Go.Lg.Heap) (On.call [1, 2, 3, 4, 5] [0, 6, 7, 8, 9, 10] (by kernel_rfl) (On.new' hn24 (.obj [vi x11.1.1, vi x11.1.2.1]) hs22)) (c := c) (ks := ks) (q0 := q0) (q1 := q1) (q2 := q2) (S := S) (hand := hand) (l0 := l0) (l1 := l1) (l2 := l2) (p := x11.1) (by omega) (by omega) (by first | rfl | omega | (simp; done) | (simp; omega)) (by first | rfl | omega | (simp; done) | (simp; omega)) (by first | rfl | omega | (simp; done) | (simp; omega)) (by omega) (by omega) (by omega)
      have hs78 : On [R, pts k (rowO EN true d L), pts n3 (cntO PN (ones (kz ++ [x11.1]))), itemsP EN cv (pin (m.take (i : Int).toNat)), pts n12 (.obj [vi x11.1.1, vi x11.1.2.1, vb x11.2.1]), pts n24 (.obj [vi x11.1.1, vi x11.1.2.1]), pts c (.obj [rff ks S, vi hand, .ptr q0 0, .ptr q1 0, .ptr q2 0]), pts ks (rowO NI true 0 S), ringP EN q0 64 l0, ringP EN q1 64 l1, ringP EN q2 64 l2] H76 := On.flat hs78
      have hcall79 : Runs pg an 44 [.one (.ptr c 0), .agg [vi x11.1.1, vi x11.1.2.1]] H21 [.one (vb true)] H76 := by
       refine runs_of ?_
       refine Runs.of (fn := Try.f44) Try.func44 rfl (by kernel_rfl) [(0, yp c), (1, .y (.agg [vi x11.1.1, vi x11.1.2.1]))] (by kernel_rfl) ?_
       refine rSq [(0, yp n24, (H21 ++ [.obj [vi x11.1.1, vi x11.1.2.1]]))] [(0, yp c), (3, yp n24)] (H21 ++ [.obj [vi x11.1.1, vi x11.1.2.1]])
         (cast (Jai (Jo (H := H21) (t := 33) (ty := 0) (n := n24) (v := .agg [vi x11.1.1, vi x11.1.2.1]) (cs := [vi x11.1.1, vi x11.1.2.1]) hn24 (by kernel_rfl) (by kernel_rfl) (by kernel_rfl)) trivial) (by kernel_rfl)) (by kernel_rfl) ?_
       refine rSq [(1, .y (.agg [vi x11.1.1, vi x11.1.2.1]), (H21 ++ [.obj [vi x11.1.1, vi x11.1.2.1]])), (2, .tup [.one (vi 2), .one (vi (posI x11.1 l2)), .one (vi 0)], H76)] [(7, xi 0)] H76
         (cast (Jai (Ja (t := 33) (off := 0) (v := .agg [vi x11.1.1, vi x11.1.2.1]) (On.at (On.new' hn24 (.obj [vi x11.1.1, vi x11.1.2.1]) hs22) 10 rfl) (by kernel_rfl)) (Jai (Jl hr77 (by kernel_rfl)) trivial)) (by kernel_rfl)) (by kernel_rfl) ?_
       refine rS0 [(4, xb true)] (by kernel_rfl) (by kernel_rfl) ?_
       refine Wp.ret ?_
       exact ⟨Or.inr rfl, [.one (vb true)], (by kernel_rfl), ⟨rfl, rfl⟩⟩
      refine rSq [(2, .y (.agg [vi x11.1.1, vi x11.1.2.1]), H21), (3, xi 1, H21), (8, .y (.agg [vi x11.1.1, vi x11.1.2.1]), H21), (9, xb true, H76)] [(0, yp c), (1, xi kk), (7, .y (.one (cv))), (8, .y (.one (.mp n3))), (10, yp n12), (20, .y (.one (rowC k d L.length o m.length cp))), (21, xi (m.length : Int)), (22, xi i), (43, xb true)] H76
        (cast (Jai (Ja (t := 33) (off := 0) (v := .agg [vi x11.1.1, vi x11.1.2.1]) (On.at hs22 9 rfl) (by kernel_rfl)) (Jai (Jq (H := H21) (s := PN) (t := 75) (ty := 0) (id := n3) (x := x11.1) (l := ones (kz ++ [x11.1])) (v := 1) (On.at hs22 7 rfl) there_ok (got_one (CntOK.flat there_ok) (memB_last (CntOK.flat there_ok)))) (Jai (Ja (t := 33) (off := 0) (v := .agg [vi x11.1.1, vi x11.1.2.1]) (On.at hs22 9 rfl) (by kernel_rfl)) (Jai (Jl hcall79 (by kernel_rfl)) trivial)))) (by kernel_rfl)) (by kernel_rfl) ?_
      refine Wp.gen hs78 ?_
      intro H80 hs81
      refine Wp.condT (by kernel_rfl) ?_
      refine rS0 [(6, xi 1)] (by kernel_rfl) (by kernel_rfl) ?_
      refine Wp.ret ?_
      refine ⟨Or.inr rfl, [.one (vi 1)], (by kernel_rfl), ?_⟩
      exact .inl (⟨(fun h => absurd (not_in h.2.2.2 hx11 : posI x11.1 l2 < 0) (by omega)), rfl, (On.pick [0, 6, 7, 8, 9, 10, 1] [2, 3, 4, 5] (by kernel_rfl) hs81)⟩)
     ·
      obtain ⟨_, H86, hr87, rfl, hs88⟩ := find_3 _ ((H21 ++ [.obj [vi x11.1.1, vi x11.1.2.1]]) : Go.Lg.Heap) (On.call [1, 2, 3, 4, 5] [0, 6, 7, 8, 9, 10] (by kernel_rfl) (On.new' hn24 (.obj [vi x11.1.1, vi x11.1.2.1]) hs22)) (c := c) (ks := ks) (q0 := q0) (q1 := q1) (q2 := q2) (S := S) (hand := hand) (l0 := l0) (l1 := l1) (l2 := l2) (p := x11.1) (by omega) (by omega) (by first | rfl | omega | (simp; done) | (simp; omega)) (by first | rfl | omega | (simp; done) | (simp; omega)) (by first | rfl | omega | (simp; done) | (simp; omega)) (by omega) (by omega) (by omega)
      have hs88 : On [R, pts k (rowO EN true d L), pts n3 (cntO PN (ones (kz ++ [x11.1]))), itemsP EN cv (pin (m.take (i : Int).toNat)), pts n12 (.obj [vi x11.1.1, vi x11.1.2.1, vb x11.2.1]), pts n24 (.obj [vi x11.1.1, vi x11.1.2.1]), pts c (.obj [rff ks S, vi hand, .ptr q0 0, .ptr q1 0, .ptr q2 0]), pts ks (rowO NI true 0 S), ringP EN q0 64 l0, ringP EN q1 64 l1, ringP EN q2 64 l2] H86 := On.flat hs88
      have hcall89 : Runs pg an 44 [.one (.ptr c 0), .agg [vi x11.1.1, vi x11.1.2.1]] H21 [.one (vb false)] H86 := by
       refine runs_of ?_
       refine Runs.of (fn := Try.f44) Try.func44 rfl (by kernel_rfl) [(0, yp c), (1, .y (.agg [vi x11.1.1, vi x11.1.2.1]))] (by kernel_rfl) ?_
       refine rSq [(0, yp n24, (H21 ++ [.obj [vi x11.1.1, vi x11.1.2.1]]))] [(0, yp c), (3, yp n24)] (H21 ++ [.obj [vi x11.1.1, vi x11.1.2.1]])
         (cast (Jai (Jo (H := H21) (t := 33) (ty := 0) (n := n24) (v := .agg [vi x11.1.1, vi x11.1.2.1]) (cs := [vi x11.1.1, vi x11.1.2.1]) hn24 (by kernel_rfl) (by kernel_rfl) (by kernel_rfl)) trivial) (by kernel_rfl)) (by kernel_rfl) ?_
       refine rSq [(1, .y (.agg [vi x11.1.1, vi x11.1.2.1]), (H21 ++ [.obj [vi x11.1.1, vi x11.1.2.1]])), (2, .tup [.one (vi 0), .one (vi 0), .one (vi 3)], H86)] [(7, xi 3)] H86
         (cast (Jai (Ja (t := 33) (off := 0) (v := .agg [vi x11.1.1, vi x11.1.2.1]) (On.at (On.new' hn24 (.obj [vi x11.1.1, vi x11.1.2.1]) hs22) 10 rfl) (by kernel_rfl)) (Jai (Jl hr87 (by kernel_rfl)) trivial)) (by kernel_rfl)) (by kernel_rfl) ?_
       refine rS0 [(4, xb false)] (by kernel_rfl) (by kernel_rfl) ?_
       refine Wp.ret ?_
       exact ⟨Or.inr rfl, [.one (vb false)], (by kernel_rfl), ⟨rfl, rfl⟩⟩
      refine rSq [(2, .y (.agg [vi x11.1.1, vi x11.1.2.1]), H21), (3, xi 1, H21), (8, .y (.agg [vi x11.1.1, vi x11.1.2.1]), H21), (9, xb false, H86)] [(0, yp c), (1, xi kk), (7, .y (.one (cv))), (8, .y (.one (.mp n3))), (10, yp n12), (20, .y (.one (rowC k d L.length o m.length cp))), (21, xi (m.length : Int)), (22, xi i), (43, xb false)] H86
        (cast (Jai (Ja (t := 33) (off := 0) (v := .agg [vi x11.1.1, vi x11.1.2.1]) (On.at hs22 9 rfl) (by kernel_rfl)) (Jai (Jq (H := H21) (s := PN) (t := 75) (ty := 0) (id := n3) (x := x11.1) (l := ones (kz ++ [x11.1])) (v := 1) (On.at hs22 7 rfl) there_ok (got_one (CntOK.flat there_ok) (memB_last (CntOK.flat there_ok)))) (Jai (Ja (t := 33) (off := 0) (v := .agg [vi x11.1.1, vi x11.1.2.1]) (On.at hs22 9 rfl) (by kernel_rfl)) (Jai (Jl hcall89 (by kernel_rfl)) trivial)))) (by kernel_rfl)) (by kernel_rfl) ?_
      refine Wp.gen hs88 ?_
      intro H90 hs91
      refine Wp.condF (by kernel_rfl) (Wp.skip ?_)
      obtain ⟨rfl, hl94, hs92⟩ | ⟨k95, d96, L97, o98, cd99, rfl, ho100, hc101, hl102, hs93⟩ := items_open hs91 3 rfl
      ·
       have hl94n : ((pin (m.take (i : Int).toNat)).length : Int) = 0 := by rw [hl94]; rfl
       obtain ⟨n103, hn103⟩ : ∃ n, n = List.length (H90 : Go.Lg.Heap) := ⟨_, rfl⟩
       have hlfz104 : ([(x11.1, (true, ()))].length : Int) = 1 := by { first | rfl | omega | (simp; done) | (simp; omega) }
       refine rKq [(2, .y (.agg [vi x11.1.1, vi x11.1.2.1]), H90), (5, .y (.one (rowC n103 0 ([(x11.1, (true, ()))] : List EN.T).length 0 (([(x11.1, (true, ()))] : List EN.T).length) false)), (H90 ++ [rowO EN true 0 ([(x11.1, (true, ()))] : List EN.T)]))] [(0, yp c), (1, xi kk), (7, .y (.one (rowC n103 0 ([(x11.1, (true, ()))] : List EN.T).length 0 (([(x11.1, (true, ()))] : List EN.T).length) false))), (8, .y (.one (.mp n3))), (20, .y (.one (rowC k d L.length o m.length cp))), (21, xi (m.length : Int)), (22, xi i)] (H90 ++ [rowO EN true 0 ([(x11.1, (true, ()))] : List EN.T)])
         (cast (Jai (Ja (t := 33) (off := 0) (v := .agg [vi x11.1.1, vi x11.1.2.1]) (On.at hs92 3 rfl) (by kernel_rfl)) (Jai (Jc1 (H := H90) (s := EN) (t := 22) (u := 22) (el := 35) (by_ := 24) (z := [vi 0, vi 0, vb false]) (ty := 0) (b' := false) (nil' := true) (pu := true) (puy := true) (m := 1) (n' := ([(x11.1, (true, ()))] : List EN.T).length) (k := n103) (nl := 0) (l := ([] : List EN.T)) (lm := ([(x11.1, (true, ()))])) (l' := ([(x11.1, (true, ()))] : List EN.T)) (y := .sl false false true [vi x11.1.1, vi x11.1.2.1, vb true] 1) hn103 (by first | rfl | omega | (simp only [List.length_nil]; omega) | (simp; done) | (simp; omega)) (by kernel_rfl) (slCells_slO (H := H90) (s := EN) (b := false) (nil := false) (capd := true) (l := [(x11.1, (true, ()))]) (n := 1) (by first | rfl | omega | (simp only [List.length_nil]; omega) | (simp; done) | (simp; omega))) (by kernel_rfl) (by kernel_rfl) (by kernel_rfl) (by kernel_rfl) (by kernel_rfl) (by kernel_rfl) (by kernel_rfl) (by first | rfl | omega | (simp only [List.length_nil]; omega) | (simp; done) | (simp; omega)) (by first | rfl | omega | (simp only [List.length_nil]; omega) | (simp; done) | (simp; omega)) (by omega) (by omega) (List.nil_append _) (by first | rfl | omega | (simp only [List.length_append, List.length_nil]; omega) | (simp; done) | (simp; omega))) trivial)) (by kernel_rfl)) (by kernel_rfl) ?_
       refine Wp.gen (cs := [R, pts k (rowO EN true d L), pts n3 (cntO PN (ones (kz ++ [x11.1]))), pts n12 (.obj [vi x11.1.1, vi x11.1.2.1, vb x11.2.1]), pts n24 (.obj [vi x11.1.1, vi x11.1.2.1]), pts c (.obj [rff ks S, vi hand, .ptr q0 0, .ptr q1 0, .ptr q2 0]), pts ks (rowO NI true 0 S), ringP EN q0 64 l0, ringP EN q1 64 l1, ringP EN q2 64 l2, pts n103 (rowO EN true 0 ([(x11.1, (true, ()))] : List EN.T))]) (On.new' hn103 (rowO EN true 0 ([(x11.1, (true, ()))] : List EN.T)) hs92) ?_
       intro H106 hs107
       refine Wp.skip ?_
       refine Wp.region [(0, xi (i + 1), H106)] [(0, yp c), (1, xi kk), (7, .y (.one (rowC n103 0 ([(x11.1, (true, ()))] : List EN.T).length 0 (([(x11.1, (true, ()))] : List EN.T).length) false))), (8, .y (.one (.mp n3))), (20, .y (.one (rowC k d L.length o m.length cp))), (21, xi (m.length : Int)), (22, xi (i + 1))] H106
         (cast (Jai (Jk (H := H106) (t := 3) (u := 3) (a := i) (b := 1) (c := (i + 1)) (by omega)) trivial) (by kernel_rfl)) (by kernel_rfl) ?_
       have hs108 : On [R, pts k (rowO EN true d L), pts n3 (cntO PN (ones (kz ++ [x11.1]))), pts n12 (.obj [vi x11.1.1, vi x11.1.2.1, vb x11.2.1]), pts n24 (.obj [vi x11.1.1, vi x11.1.2.1]), pts c (.obj [rff ks S, vi hand, .ptr q0 0, .ptr q1 0, .ptr q2 0]), pts ks (rowO NI true 0 S), ringP EN q0 64 l0, ringP EN q1 64 l1, ringP EN q2 64 l2, itemsP EN (rowC n103 0 ([(x11.1, (true, ()))] : List EN.T).length 0 (([(x11.1, (true, ()))] : List EN.T).length) false) (pin (m.take ((i + 1) : Int).toNat))] H106 := On.shut (cs := [R, pts k (rowO EN true d L), pts n3 (cntO PN (ones (kz ++ [x11.1]))), pts n12 (.obj [vi x11.1.1, vi x11.1.2.1, vb x11.2.1]), pts n24 (.obj [vi x11.1.1, vi x11.1.2.1]), pts c (.obj [rff ks S, vi hand, .ptr q0 0, .ptr q1 0, .ptr q2 0]), pts ks (rowO NI true 0 S), ringP EN q0 64 l0, ringP EN q1 64 l1, ringP EN q2 64 l2, pts n103 (rowO EN true 0 ([(x11.1, (true, ()))] : List EN.T))]) [10] [0, 1, 2, 3, 4, 5, 6, 7, 8, 9] (by kernel_rfl) (fun _ x => items_row (by first | rfl | omega | (simp; done) | (simp; omega)) (by first | rfl | omega | (simp; done) | (simp; omega)) (fun _ => by first | rfl | omega | (simp; done) | (simp; omega)) ((dt0 rfl (Nat.le_refl _)).trans ((by rw [← pin_step g1 hx11, hl94]; rfl))) x) hs107
       exact ⟨(H106, (i + 1), (rowC n103 0 ([(x11.1, (true, ()))] : List EN.T).length 0 (([(x11.1, (true, ()))] : List EN.T).length) false), (kz ++ [x11.1])), by kernel_rfl, (⟨(On.pick [0, 5, 6, 7, 8, 9, 1, 2, 10] [3, 4] (by kernel_rfl) hs108), by omega, by omega, pids_step g1 hx11 g3, by simp only [List.length_map, List.length_take]; omega, nd_snoc g5 c15, out_snoc g6 (by omega), out_snoc g7 (by omega), out_snoc g8 (by omega)⟩), (by show (_ : Nat) < _; simp only []; omega)⟩
      ·
       rcases Bool.eq_false_or_eq_true cd99 with rfl | rfl
       ·
        obtain ⟨n109, hn109⟩ : ∃ n, n = List.length (H90 : Go.Lg.Heap) := ⟨_, rfl⟩
        have hlfz110 : ([(x11.1, (true, ()))].length : Int) = 1 := by { first | rfl | omega | (simp; done) | (simp; omega) }
        have hlfz112 : (((pin (m.take (i : Int).toNat)) ++ [(x11.1, (true, ()))]).length : Int) = (((pin (m.take (i : Int).toNat)).length : Int) + 1) := by { first | rfl | omega | (simp; done) | (simp; omega) }
        refine rKq [(2, .y (.agg [vi x11.1.1, vi x11.1.2.1]), H90), (5, .y (.one (rowC n109 0 ((pin (m.take (i : Int).toNat)) ++ [(x11.1, (true, ()))]).length 0 (((pin (m.take (i : Int).toNat)) ++ [(x11.1, (true, ()))]).length) false)), (H90 ++ [rowO EN true 0 ((pin (m.take (i : Int).toNat)) ++ [(x11.1, (true, ()))])]))] [(0, yp c), (1, xi kk), (7, .y (.one (rowC n109 0 ((pin (m.take (i : Int).toNat)) ++ [(x11.1, (true, ()))]).length 0 (((pin (m.take (i : Int).toNat)) ++ [(x11.1, (true, ()))]).length) false))), (8, .y (.one (.mp n3))), (20, .y (.one (rowC k d L.length o m.length cp))), (21, xi (m.length : Int)), (22, xi i)] (H90 ++ [rowO EN true 0 ((pin (m.take (i : Int).toNat)) ++ [(x11.1, (true, ()))])])
          (cast (Jai (Ja (t := 33) (off := 0) (v := .agg [vi x11.1.1, vi x11.1.2.1]) (On.at hs93 3 rfl) (by kernel_rfl)) (Jai (Jk1 (H := H90) (s := EN) (t := 22) (u := 22) (el := 35) (by_ := 24) (z := [vi 0, vi 0, vb false]) (ty := 0) (pu := true) (puy := true) (id := k95) (d := d96) (o := o98) (n := ((pin (m.take (i : Int).toNat)).length)) (m := 1) (l := L97) (lm := ([(x11.1, (true, ()))])) (y := .sl false false true [vi x11.1.1, vi x11.1.2.1, vb true] 1) (n' := ((pin (m.take (i : Int).toNat)) ++ [(x11.1, (true, ()))]).length) (k := n109) (l' := ((pin (m.take (i : Int).toNat)) ++ [(x11.1, (true, ()))])) hn109 (On.at hs93 10 rfl) (slCells_slO (H := H90) (s := EN) (b := false) (nil := false) (capd := true) (l := [(x11.1, (true, ()))]) (n := 1) (by first | rfl | omega | (simp; done) | (simp; omega))) (by kernel_rfl) (by kernel_rfl) (by kernel_rfl) (by kernel_rfl) (by kernel_rfl) (by kernel_rfl) (by kernel_rfl) (by first | rfl | omega | (simp; done) | (simp; omega)) (by first | rfl | omega | (simp; done) | (simp; omega)) (by first | rfl | omega | (simp; done) | (simp; omega)) (by omega) (by omega) (congrArg (fun z => z ++ _) (hl102)) (by first | (simp only [List.length_append]; done) | (simp only [List.length_append]; first | omega | (simp; done) | (simp; omega)))) trivial)) (by kernel_rfl)) (by kernel_rfl) ?_
        refine Wp.gen (cs := [R, pts k (rowO EN true d L), pts n3 (cntO PN (ones (kz ++ [x11.1]))), pts n12 (.obj [vi x11.1.1, vi x11.1.2.1, vb x11.2.1]), pts n24 (.obj [vi x11.1.1, vi x11.1.2.1]), pts c (.obj [rff ks S, vi hand, .ptr q0 0, .ptr q1 0, .ptr q2 0]), pts ks (rowO NI true 0 S), ringP EN q0 64 l0, ringP EN q1 64 l1, ringP EN q2 64 l2, pts k95 (rowO EN true d96 L97), pts n109 (rowO EN true 0 ((pin (m.take (i : Int).toNat)) ++ [(x11.1, (true, ()))]))]) (On.new' hn109 (rowO EN true 0 ((pin (m.take (i : Int).toNat)) ++ [(x11.1, (true, ()))])) hs93) ?_
        intro H115 hs116
        refine Wp.skip ?_
        refine Wp.region [(0, xi (i + 1), H115)] [(0, yp c), (1, xi kk), (7, .y (.one (rowC n109 0 ((pin (m.take (i : Int).toNat)) ++ [(x11.1, (true, ()))]).length 0 (((pin (m.take (i : Int).toNat)) ++ [(x11.1, (true, ()))]).length) false))), (8, .y (.one (.mp n3))), (20, .y (.one (rowC k d L.length o m.length cp))), (21, xi (m.length : Int)), (22, xi (i + 1))] H115
          (cast (Jai (Jk (H := H115) (t := 3) (u := 3) (a := i) (b := 1) (c := (i + 1)) (by omega)) trivial) (by kernel_rfl)) (by kernel_rfl) ?_
        have hs117 : On [R, pts k (rowO EN true d L), pts n3 (cntO PN (ones (kz ++ [x11.1]))), pts n12 (.obj [vi x11.1.1, vi x11.1.2.1, vb x11.2.1]), pts n24 (.obj [vi x11.1.1, vi x11.1.2.1]), pts c (.obj [rff ks S, vi hand, .ptr q0 0, .ptr q1 0, .ptr q2 0]), pts ks (rowO NI true 0 S), ringP EN q0 64 l0, ringP EN q1 64 l1, ringP EN q2 64 l2, pts k95 (rowO EN true d96 L97), itemsP EN (rowC n109 0 ((pin (m.take (i : Int).toNat)) ++ [(x11.1, (true, ()))]).length 0 (((pin (m.take (i : Int).toNat)) ++ [(x11.1, (true, ()))]).length) false) (pin (m.take ((i + 1) : Int).toNat))] H115 := On.shut (cs := [R, pts k (rowO EN true d L), pts n3 (cntO PN (ones (kz ++ [x11.1]))), pts n12 (.obj [vi x11.1.1, vi x11.1.2.1, vb x11.2.1]), pts n24 (.obj [vi x11.1.1, vi x11.1.2.1]), pts c (.obj [rff ks S, vi hand, .ptr q0 0, .ptr q1 0, .ptr q2 0]), pts ks (rowO NI true 0 S), ringP EN q0 64 l0, ringP EN q1 64 l1, ringP EN q2 64 l2, pts k95 (rowO EN true d96 L97), pts n109 (rowO EN true 0 ((pin (m.take (i : Int).toNat)) ++ [(x11.1, (true, ()))]))]) [11] [0, 1, 2, 3, 4, 5, 6, 7, 8, 9, 10] (by kernel_rfl) (fun _ x => items_row (by first | rfl | omega | (simp; done) | (simp; omega)) (by first | rfl | omega | (simp; done) | (simp; omega)) (fun _ => by first | rfl | omega | (simp; done) | (simp; omega)) ((dt0 rfl (Nat.le_refl _)).trans ((pin_step g1 hx11))) x) hs116
        exact ⟨(H115, (i + 1), (rowC n109 0 ((pin (m.take (i : Int).toNat)) ++ [(x11.1, (true, ()))]).length 0 (((pin (m.take (i : Int).toNat)) ++ [(x11.1, (true, ()))]).length) false), (kz ++ [x11.1])), by kernel_rfl, (⟨(On.pick [0, 5, 6, 7, 8, 9, 1, 2, 11] [3, 4, 10] (by kernel_rfl) hs117), by omega, by omega, pids_step g1 hx11 g3, by simp only [List.length_map, List.length_take]; omega, nd_snoc g5 c15, out_snoc g6 (by omega), out_snoc g7 (by omega), out_snoc g8 (by omega)⟩), (by show (_ : Nat) < _; simp only []; omega)⟩
       ·
        have hc101z := hc101 rfl
        have hlfz118 : ([(x11.1, (true, ()))].length : Int) = 1 := by { first | rfl | omega | (simp; done) | (simp; omega) }
        have hlfz120 : (((pin (m.take (i : Int).toNat)) ++ [(x11.1, (true, ()))]).length : Int) = (((pin (m.take (i : Int).toNat)).length : Int) + 1) := by { first | rfl | omega | (simp; done) | (simp; omega) }
        refine rKq [(2, .y (.agg [vi x11.1.1, vi x11.1.2.1]), H90), (5, .y (.one (rowC k95 (d96 + o98) ((pin (m.take (i : Int).toNat)) ++ [(x11.1, (true, ()))]).length 0 (((pin (m.take (i : Int).toNat)) ++ [(x11.1, (true, ()))]).length) false)), (List.set (α := O) H90 k95 (rowO EN true (d96 + o98) ((pin (m.take (i : Int).toNat)) ++ [(x11.1, (true, ()))]))))] [(0, yp c), (1, xi kk), (7, .y (.one (rowC k95 (d96 + o98) ((pin (m.take (i : Int).toNat)) ++ [(x11.1, (true, ()))]).length 0 (((pin (m.take (i : Int).toNat)) ++ [(x11.1, (true, ()))]).length) false))), (8, .y (.one (.mp n3))), (20, .y (.one (rowC k d L.length o m.length cp))), (21, xi (m.length : Int)), (22, xi i)] (List.set (α := O) H90 k95 (rowO EN true (d96 + o98) ((pin (m.take (i : Int).toNat)) ++ [(x11.1, (true, ()))])))
          (cast (Jai (Ja (t := 33) (off := 0) (v := .agg [vi x11.1.1, vi x11.1.2.1]) (On.at hs93 3 rfl) (by kernel_rfl)) (Jai (Jl1 (H := H90) (s := EN) (t := 22) (u := 22) (el := 35) (by_ := 24) (z := [vi 0, vi 0, vb false]) (ty := 0) (pu := true) (puy := true) (id := k95) (d := d96) (o := o98) (n := ((pin (m.take (i : Int).toNat)).length)) (m := 1) (l := L97) (lm := ([(x11.1, (true, ()))])) (y := .sl false false true [vi x11.1.1, vi x11.1.2.1, vb true] 1) (d' := (d96 + o98)) (l' := ((pin (m.take (i : Int).toNat)) ++ [(x11.1, (true, ()))])) (n' := ((pin (m.take (i : Int).toNat)) ++ [(x11.1, (true, ()))]).length) (On.at hs93 10 rfl) (slCells_slO (H := H90) (s := EN) (b := false) (nil := false) (capd := true) (l := [(x11.1, (true, ()))]) (n := 1) (by first | rfl | omega | (simp; done) | (simp; omega))) (by kernel_rfl) (by kernel_rfl) (by kernel_rfl) (by kernel_rfl) (by kernel_rfl) (by kernel_rfl) (by kernel_rfl) (by first | rfl | omega | (simp; done) | (simp; omega)) (by first | rfl | omega | (simp; done) | (simp; omega)) (by first | rfl | omega | (simp; done) | (simp; omega)) (by omega) (by omega) (by omega) (congrArg (fun z => z ++ ([(x11.1, (true, ()))])) (show L97.drop o98 = (pin (m.take (i : Int).toNat)) from (List.take_of_length_le (by rw [List.length_drop]; omega)).symm.trans (hl102))) (by first | (simp only [List.length_append]; done) | (simp only [List.length_append]; first | omega | (simp; done) | (simp; omega)))) trivial)) (by kernel_rfl)) (by kernel_rfl) ?_
        refine Wp.gen (cs := [R, pts k (rowO EN true d L), pts n3 (cntO PN (ones (kz ++ [x11.1]))), pts n12 (.obj [vi x11.1.1, vi x11.1.2.1, vb x11.2.1]), pts n24 (.obj [vi x11.1.1, vi x11.1.2.1]), pts c (.obj [rff ks S, vi hand, .ptr q0 0, .ptr q1 0, .ptr q2 0]), pts ks (rowO NI true 0 S), ringP EN q0 64 l0, ringP EN q1 64 l1, ringP EN q2 64 l2, pts k95 (rowO EN true (d96 + o98) ((pin (m.take (i : Int).toNat)) ++ [(x11.1, (true, ()))]))]) (On.put (rowO EN true (d96 + o98) ((pin (m.take (i : Int).toNat)) ++ [(x11.1, (true, ()))])) hs93 10 rfl) ?_
        intro H123 hs124
        refine Wp.skip ?_
        refine Wp.region [(0, xi (i + 1), H123)] [(0, yp c), (1, xi kk), (7, .y (.one (rowC k95 (d96 + o98) ((pin (m.take (i : Int).toNat)) ++ [(x11.1, (true, ()))]).length 0 (((pin (m.take (i : Int).toNat)) ++ [(x11.1, (true, ()))]).length) false))), (8, .y (.one (.mp n3))), (20, .y (.one (rowC k d L.length o m.length cp))), (21, xi (m.length : Int)), (22, xi (i + 1))] H123
          (cast (Jai (Jk (H := H123) (t := 3) (u := 3) (a := i) (b := 1) (c := (i + 1)) (by omega)) trivial) (by kernel_rfl)) (by kernel_rfl) ?_
        have hs125 : On [R, pts k (rowO EN true d L), pts n3 (cntO PN (ones (kz ++ [x11.1]))), pts n12 (.obj [vi x11.1.1, vi x11.1.2.1, vb x11.2.1]), pts n24 (.obj [vi x11.1.1, vi x11.1.2.1]), pts c (.obj [rff ks S, vi hand, .ptr q0 0, .ptr q1 0, .ptr q2 0]), pts ks (rowO NI true 0 S), ringP EN q0 64 l0, ringP EN q1 64 l1, ringP EN q2 64 l2, itemsP EN (rowC k95 (d96 + o98) ((pin (m.take (i : Int).toNat)) ++ [(x11.1, (true, ()))]).length 0 (((pin (m.take (i : Int).toNat)) ++ [(x11.1, (true, ()))]).length) false) (pin (m.take ((i + 1) : Int).toNat))] H123 := On.shut (cs := [R, pts k (rowO EN true d L), pts n3 (cntO PN (ones (kz ++ [x11.1]))), pts n12 (.obj [vi x11.1.1, vi x11.1.2.1, vb x11.2.1]), pts n24 (.obj [vi x11.1.1, vi x11.1.2.1]), pts c (.obj [rff ks S, vi hand, .ptr q0 0, .ptr q1 0, .ptr q2 0]), pts ks (rowO NI true 0 S), ringP EN q0 64 l0, ringP EN q1 64 l1, ringP EN q2 64 l2, pts k95 (rowO EN true (d96 + o98) ((pin (m.take (i : Int).toNat)) ++ [(x11.1, (true, ()))]))]) [10] [0, 1, 2, 3, 4, 5, 6, 7, 8, 9] (by kernel_rfl) (fun _ x => items_row (by first | rfl | omega | (simp; done) | (simp; omega)) (by first | rfl | omega | (simp; done) | (simp; omega)) (fun _ => by first | rfl | omega | (simp; done) | (simp; omega)) ((dt0 rfl (Nat.le_refl _)).trans ((pin_step g1 hx11))) x) hs124
        exact ⟨(H123, (i + 1), (rowC k95 (d96 + o98) ((pin (m.take (i : Int).toNat)) ++ [(x11.1, (true, ()))]).length 0 (((pin (m.take (i : Int).toNat)) ++ [(x11.1, (true, ()))]).length) false), (kz ++ [x11.1])), by kernel_rfl, (⟨(On.pick [0, 5, 6, 7, 8, 9, 1, 2, 10] [3, 4] (by kernel_rfl) hs125), by omega, by omega, pids_step g1 hx11 g3, by simp only [List.length_map, List.length_take]; omega, nd_snoc g5 c15, out_snoc g6 (by omega), out_snoc g7 (by omega), out_snoc g8 (by omega)⟩), (by show (_ : Nat) < _; simp only []; omega)⟩
 ·
  refine rSq [(0, xb false, H8)] [(0, yp c), (1, xi kk), (7, .y (.one (cv))), (8, .y (.one (.mp n3))), (20, .y (.one (rowC k d L.length o m.length cp))), (21, xi (m.length : Int)), (22, xi i), (23, xb false)] H8
    (cast (Jai (Jf (H := H8) (t := 3) (u := 3) (a := i) (b := (m.length : Int)) (by omega)) trivial) (by kernel_rfl)) (by kernel_rfl) ?_
  refine Wp.seq ?_
  refine Wp.condF (by kernel_rfl) ?_
  refine Wp.exit ?_
  refine Eq.mpr (if_pos rfl) ?_
  rcases (show kk = 0 ∨ kk = 1 ∨ kk = 2 from by omega) with rfl | rfl | rfl
  ·
   obtain ⟨rfl, hl128, hs126⟩ | ⟨k129, d130, L131, o132, cd133, rfl, ho134, hc135, hl136, hs127⟩ := items_open hs9 8 rfl
   ·
    have hl128n : ((pin (m.take (i : Int).toNat)).length : Int) = 0 := by rw [hl128]; rfl
    have hlfz137 : ((l0 ++ ([] : List EN.T)).length : Int) = (l0.length : Int) := by { first | rfl | omega | (simp only [List.length_nil]; omega) | (simp; done) | (simp; omega) }
    obtain ⟨_, H139, hr140, rfl, hs141⟩ := join_ok_s _ (H8 : Go.Lg.Heap) (On.call [3] [0, 1, 2, 4, 5, 6, 7] (by kernel_rfl) hs126) (q := q0) (room := 64) (l := l0) (b := false) (nil := true) (cp := true) (m := ([] : List EN.T)) (by first | rfl | omega | (simp only [List.length_nil]; omega) | (simp; done) | (simp; omega))
    have hs141 : On [R, pts c (.obj [rff ks S, vi hand, .ptr q0 0, .ptr q1 0, .ptr q2 0]), pts ks (rowO NI true 0 S), ringP EN q1 64 l1, ringP EN q2 64 l2, pts k (rowO EN true d L), pts n3 (cntO PN (ones kz)), ringP EN q0 64 (l0 ++ ([] : List EN.T))] H139 := On.flat hs141
    refine rSq [(6, yp q0, H8), (8, xi 0, H139)] [(6, xi 0)] H139
      (cast (Jai (Ja (t := 50) (off := 2) (v := .one (.ptr q0 0)) (On.at hs126 1 rfl) (by kernel_rfl)) (Jai (Jl hr140 (by kernel_rfl)) trivial)) (by kernel_rfl)) (by kernel_rfl) ?_
    refine Wp.gen hs141 ?_
    intro H142 hs143
    refine Wp.ret ?_
    refine ⟨Or.inr rfl, [.one (vi 0)], (by kernel_rfl), ?_⟩
    exact .inr (.inr (.inl (⟨(⟨by rw [← List.nil_append (pids m), ← pids_end (by omega) g3]; exact g5, by rw [← List.nil_append (pids m), ← pids_end (by omega) g3]; exact g6, by rw [← List.nil_append (pids m), ← pids_end (by omega) g3]; exact g7, by rw [← List.nil_append (pids m), ← pids_end (by omega) g3]; exact g8⟩ : JoinOk m l0 l1 l2), rfl, by omega, rfl, (On.pick [0, 1, 2, 7, 3, 4, 5] [6] (by kernel_rfl) (On.mono (A' := ringP EN q0 64 (l0 ++ pin m)) 7 rfl (fun _ x => by have e : (l0 ++ ([] : List EN.T)) = l0 ++ pin m := congrArg (fun z => l0 ++ z) ((hl128).symm.trans (pin_end (q := m) (i := i) (by omega))); rw [← e]; exact x) hs143))⟩)))
   ·
    by_cases c144 : (64 : Int) < ((l0.length : Int) + ((pin (m.take (i : Int).toNat)).length : Int))
    ·
     obtain ⟨_, H145, hr146, rfl, hs147⟩ := join_full_r _ (H8 : Go.Lg.Heap) (On.call [3, 8] [0, 1, 2, 4, 5, 6, 7] (by kernel_rfl) hs127) (q := q0) (room := 64) (l := l0) (k := k129) (d := d130) (o := o132) (cp := cd133) (L := L131) (m := (pin (m.take (i : Int).toNat))) (by first | rfl | omega | (simp; done) | (simp; omega)) (hl136) (by first | rfl | omega | (simp; done) | (simp; omega))
     have hs147 : On [R, pts c (.obj [rff ks S, vi hand, .ptr q0 0, .ptr q1 0, .ptr q2 0]), pts ks (rowO NI true 0 S), ringP EN q1 64 l1, ringP EN q2 64 l2, pts k (rowO EN true d L), pts n3 (cntO PN (ones kz)), ringP EN q0 64 l0, pts k129 (rowO EN true d130 L131)] H145 := On.flat hs147
     refine rSq [(6, yp q0, H8), (8, xi 2, H145)] [(6, xi 2)] H145
       (cast (Jai (Ja (t := 50) (off := 2) (v := .one (.ptr q0 0)) (On.at hs127 1 rfl) (by kernel_rfl)) (Jai (Jl hr146 (by kernel_rfl)) trivial)) (by kernel_rfl)) (by kernel_rfl) ?_
     refine Wp.gen hs147 ?_
     intro H148 hs149
     refine Wp.ret ?_
     refine ⟨Or.inr rfl, [.one (vi 2)], (by kernel_rfl), ?_⟩
     exact .inr (.inl (⟨(⟨by rw [← List.nil_append (pids m), ← pids_end (by omega) g3]; exact g5, by rw [← List.nil_append (pids m), ← pids_end (by omega) g3]; exact g6, by rw [← List.nil_append (pids m), ← pids_end (by omega) g3]; exact g7, by rw [← List.nil_append (pids m), ← pids_end (by omega) g3]; exact g8⟩ : JoinOk m l0 l1 l2), rfl, by omega, rfl, (On.pick [0, 1, 2, 7, 3, 4, 5] [6, 8] (by kernel_rfl) hs149)⟩))
    ·
     have hlfz150 : ((l0 ++ (pin (m.take (i : Int).toNat))).length : Int) = ((l0.length : Int) + ((pin (m.take (i : Int).toNat)).length : Int)) := by { first | rfl | omega | (simp; done) | (simp; omega) }
     obtain ⟨_, H152, hr153, rfl, hs154⟩ := join_ok_r _ (H8 : Go.Lg.Heap) (On.call [3, 8] [0, 1, 2, 4, 5, 6, 7] (by kernel_rfl) hs127) (q := q0) (room := 64) (l := l0) (k := k129) (d := d130) (o := o132) (cp := cd133) (L := L131) (m := (pin (m.take (i : Int).toNat))) (by first | rfl | omega | (simp; done) | (simp; omega)) (hl136) (by first | rfl | omega | (simp; done) | (simp; omega))
     have hs154 : On [R, pts c (.obj [rff ks S, vi hand, .ptr q0 0, .ptr q1 0, .ptr q2 0]), pts ks (rowO NI true 0 S), ringP EN q1 64 l1, ringP EN q2 64 l2, pts k (rowO EN true d L), pts n3 (cntO PN (ones kz)), ringP EN q0 64 (l0 ++ (pin (m.take (i : Int).toNat))), pts k129 (rowO EN true d130 L131)] H152 := On.flat hs154
     refine rSq [(6, yp q0, H8), (8, xi 0, H152)] [(6, xi 0)] H152
       (cast (Jai (Ja (t := 50) (off := 2) (v := .one (.ptr q0 0)) (On.at hs127 1 rfl) (by kernel_rfl)) (Jai (Jl hr153 (by kernel_rfl)) trivial)) (by kernel_rfl)) (by kernel_rfl) ?_
     refine Wp.gen hs154 ?_
     intro H155 hs156
     refine Wp.ret ?_
     refine ⟨Or.inr rfl, [.one (vi 0)], (by kernel_rfl), ?_⟩
     exact .inr (.inr (.inl (⟨(⟨by rw [← List.nil_append (pids m), ← pids_end (by omega) g3]; exact g5, by rw [← List.nil_append (pids m), ← pids_end (by omega) g3]; exact g6, by rw [← List.nil_append (pids m), ← pids_end (by omega) g3]; exact g7, by rw [← List.nil_append (pids m), ← pids_end (by omega) g3]; exact g8⟩ : JoinOk m l0 l1 l2), rfl, by omega, rfl, (On.pick [0, 1, 2, 7, 3, 4, 5] [6, 8] (by kernel_rfl) (On.mono (A' := ringP EN q0 64 (l0 ++ pin m)) 7 rfl (fun _ x => by have e : (l0 ++ (pin (m.take (i : Int).toNat))) = l0 ++ pin m := congrArg (fun z => l0 ++ z) (pin_end (q := m) (i := i) (by omega)); rw [← e]; exact x) hs156))⟩)))
  ·
   obtain ⟨rfl, hl159, hs157⟩ | ⟨k160, d161, L162, o163, cd164, rfl, ho165, hc166, hl167, hs158⟩ := items_open hs9 8 rfl
   ·
    have hl159n : ((pin (m.take (i : Int).toNat)).length : Int) = 0 := by rw [hl159]; rfl
    have hlfz168 : ((l1 ++ ([] : List EN.T)).length : Int) = (l1.length : Int) := by { first | rfl | omega | (simp only [List.length_nil]; omega) | (simp; done) | (simp; omega) }
    obtain ⟨_, H170, hr171, rfl, hs172⟩ := join_ok_s _ (H8 : Go.Lg.Heap) (On.call [4] [0, 1, 2, 3, 5, 6, 7] (by kernel_rfl) hs157) (q := q1) (room := 64) (l := l1) (b := false) (nil := true) (cp := true) (m := ([] : List EN.T)) (by first | rfl | omega | (simp only [List.length_nil]; omega) | (simp; done) | (simp; omega))
    have hs172 : On [R, pts c (.obj [rff ks S, vi hand, .ptr q0 0, .ptr q1 0, .ptr q2 0]), pts ks (rowO NI true 0 S), ringP EN q0 64 l0, ringP EN q2 64 l2, pts k (rowO EN true d L), pts n3 (cntO PN (ones kz)), ringP EN q1 64 (l1 ++ ([] : List EN.T))] H170 := On.flat hs172
    refine rSq [(6, yp q1, H8), (8, xi 0, H170)] [(6, xi 0)] H170
      (cast (Jai (Ja (t := 50) (off := 3) (v := .one (.ptr q1 0)) (On.at hs157 1 rfl) (by kernel_rfl)) (Jai (Jl hr171 (by kernel_rfl)) trivial)) (by kernel_rfl)) (by kernel_rfl) ?_
    refine Wp.gen hs172 ?_
    intro H173 hs174
    refine Wp.ret ?_
    refine ⟨Or.inr rfl, [.one (vi 0)], (by kernel_rfl), ?_⟩
    exact .inr (.inr (.inr (.inr (.inl (⟨(⟨by rw [← List.nil_append (pids m), ← pids_end (by omega) g3]; exact g5, by rw [← List.nil_append (pids m), ← pids_end (by omega) g3]; exact g6, by rw [← List.nil_append (pids m), ← pids_end (by omega) g3]; exact g7, by rw [← List.nil_append (pids m), ← pids_end (by omega) g3]; exact g8⟩ : JoinOk m l0 l1 l2), rfl, by omega, rfl, (On.pick [0, 1, 2, 3, 7, 4, 5] [6] (by kernel_rfl) (On.mono (A' := ringP EN q1 64 (l1 ++ pin m)) 7 rfl (fun _ x => by have e : (l1 ++ ([] : List EN.T)) = l1 ++ pin m := congrArg (fun z => l1 ++ z) ((hl159).symm.trans (pin_end (q := m) (i := i) (by omega))); rw [← e]; exact x) hs174))⟩)))))
   ·
    by_cases c175 : (64 : Int) < ((l1.length : Int) + ((pin (m.take (i : Int).toNat)).length : Int))
    ·
     obtain ⟨_, H176, hr177, rfl, hs178⟩ := join_full_r _ (H8 : Go.Lg.Heap) (On.call [4, 8] [0, 1, 2, 3, 5, 6, 7] (by kernel_rfl) hs158) (q := q1) (room := 64) (l := l1) (k := k160) (d := d161) (o := o163) (cp := cd164) (L := L162) (m := (pin (m.take (i : Int).toNat))) (by first | rfl | omega | (simp; done) | (simp; omega)) (hl167) (by first | rfl | omega | (simp; done) | (simp; omega))
     have hs178 : On [R, pts c (.obj [rff ks S, vi hand, .ptr q0 0, .ptr q1 0, .ptr q2 0]), pts ks (rowO NI true 0 S), ringP EN q0 64 l0, ringP EN q2 64 l2, pts k (rowO EN true d L), pts n3 (cntO PN (ones kz)), ringP EN q1 64 l1, pts k160 (rowO EN true d161 L162)] H176 := On.flat hs178
     refine rSq [(6, yp q1, H8), (8, xi 2, H176)] [(6, xi 2)] H176
       (cast (Jai (Ja (t := 50) (off := 3) (v := .one (.ptr q1 0)) (On.at hs158 1 rfl) (by kernel_rfl)) (Jai (Jl hr177 (by kernel_rfl)) trivial)) (by kernel_rfl)) (by kernel_rfl) ?_
     refine Wp.gen hs178 ?_
     intro H179 hs180
     refine Wp.ret ?_
     refine ⟨Or.inr rfl, [.one (vi 2)], (by kernel_rfl), ?_⟩
     exact .inr (.inr (.inr (.inl (⟨(⟨by rw [← List.nil_append (pids m), ← pids_end (by omega) g3]; exact g5, by rw [← List.nil_append (pids m), ← pids_end (by omega) g3]; exact g6, by rw [← List.nil_append (pids m), ← pids_end (by omega) g3]; exact g7, by rw [← List.nil_append (pids m), ← pids_end (by omega) g3]; exact g8⟩ : JoinOk m l0 l1 l2), rfl, by omega, rfl, (On.pick [0, 1, 2, 3, 7, 4, 5] [6, 8] (by kernel_rfl) hs180)⟩))))
    ·
     have hlfz181 : ((l1 ++ (pin (m.take (i : Int).toNat))).length : Int) = ((l1.length : Int) + ((pin (m.take (i : Int).toNat)).length : Int)) := by { first | rfl | omega | (simp; done) | (simp; omega) }
     obtain ⟨_, H183, hr184, rfl, hs185⟩ := join_ok_r _ (H8 : Go.Lg.Heap) (On.call [4, 8] [0, 1, 2, 3, 5, 6, 7] (by kernel_rfl) hs158) (q := q1) (room := 64) (l := l1) (k := k160) (d := d161) (o := o163) (cp := cd164) (L := L162) (m := (pin (m.take (i : Int).toNat))) (by first | rfl | omega | (simp; done) | (simp; omega)) (hl167) (by first | rfl | omega | (simp; done) | (simp; omega))
     have hs185 : On [R, pts c (.obj [rff ks S, vi hand, .ptr q0 0, .ptr q1 0, .ptr q2 0]), pts ks (rowO NI true 0 S), ringP EN q0 64 l0, ringP EN q2 64 l2, pts k (rowO EN true d L), pts n3 (cntO PN (ones kz)), ringP EN q1 64 (l1 ++ (pin (m.take (i : Int).toNat))), pts k160 (rowO EN true d161 L162)] H183 := On.flat hs185
     refine rSq [(6, yp q1, H8), (8, xi 0, H183)] [(6, xi 0)] H183
       (cast (Jai (Ja (t := 50) (off := 3) (v := .one (.ptr q1 0)) (On.at hs158 1 rfl) (by kernel_rfl)) (Jai (Jl hr184 (by kernel_rfl)) trivial)) (by kernel_rfl)) (by kernel_rfl) ?_
     refine Wp.gen hs185 ?_
     intro H186 hs187
     refine Wp.ret ?_
     refine ⟨Or.inr rfl, [.one (vi 0)], (by kernel_rfl), ?_⟩
     exact .inr (.inr (.inr (.inr (.inl (⟨(⟨by rw [← List.nil_append (pids m), ← pids_end (by omega) g3]; exact g5, by rw [← List.nil_append (pids m), ← pids_end (by omega) g3]; exact g6, by rw [← List.nil_append (pids m), ← pids_end (by omega) g3]; exact g7, by rw [← List.nil_append (pids m), ← pids_end (by omega) g3]; exact g8⟩ : JoinOk m l0 l1 l2), rfl, by omega, rfl, (On.pick [0, 1, 2, 3, 7, 4, 5] [6, 8] (by kernel_rfl) (On.mono (A' := ringP EN q1 64 (l1 ++ pin m)) 7 rfl (fun _ x => by have e : (l1 ++ (pin (m.take (i : Int).toNat))) = l1 ++ pin m := congrArg (fun z => l1 ++ z) (pin_end (q := m) (i := i) (by omega)); rw [← e]; exact x) hs187))⟩)))))
  ·
   obtain ⟨rfl, hl190, hs188⟩ | ⟨k191, d192, L193, o194, cd195, rfl, ho196, hc197, hl198, hs189⟩ := items_open hs9 8 rfl
   ·
    have hl190n : ((pin (m.take (i : Int).toNat)).length : Int) = 0 := by rw [hl190]; rfl
    have hlfz199 : ((l2 ++ ([] : List EN.T)).length : Int) = (l2.length : Int) := by { first | rfl | omega | (simp only [List.length_nil]; omega) | (simp; done) | (simp; omega) }
    obtain ⟨_, H201, hr202, rfl, hs203⟩ := join_ok_s _ (H8 : Go.Lg.Heap) (On.call [5] [0, 1, 2, 3, 4, 6, 7] (by kernel_rfl) hs188) (q := q2) (room := 64) (l := l2) (b := false) (nil := true) (cp := true) (m := ([] : List EN.T)) (by first | rfl | omega | (simp only [List.length_nil]; omega) | (simp; done) | (simp; omega))
    have hs203 : On [R, pts c (.obj [rff ks S, vi hand, .ptr q0 0, .ptr q1 0, .ptr q2 0]), pts ks (rowO NI true 0 S), ringP EN q0 64 l0, ringP EN q1 64 l1, pts k (rowO EN true d L), pts n3 (cntO PN (ones kz)), ringP EN q2 64 (l2 ++ ([] : List EN.T))] H201 := On.flat hs203
    refine rSq [(6, yp q2, H8), (8, xi 0, H201)] [(6, xi 0)] H201
      (cast (Jai (Ja (t := 50) (off := 4) (v := .one (.ptr q2 0)) (On.at hs188 1 rfl) (by kernel_rfl)) (Jai (Jl hr202 (by kernel_rfl)) trivial)) (by kernel_rfl)) (by kernel_rfl) ?_
    refine Wp.gen hs203 ?_
    intro H204 hs205
    refine Wp.ret ?_
    refine ⟨Or.inr rfl, [.one (vi 0)], (by kernel_rfl), ?_⟩
    exact .inr (.inr (.inr (.inr (.inr (.inr (⟨(⟨by rw [← List.nil_append (pids m), ← pids_end (by omega) g3]; exact g5, by rw [← List.nil_append (pids m), ← pids_end (by omega) g3]; exact g6, by rw [← List.nil_append (pids m), ← pids_end (by omega) g3]; exact g7, by rw [← List.nil_append (pids m), ← pids_end (by omega) g3]; exact g8⟩ : JoinOk m l0 l1 l2), rfl, by omega, rfl, (On.pick [0, 1, 2, 3, 4, 7, 5] [6] (by kernel_rfl) (On.mono (A' := ringP EN q2 64 (l2 ++ pin m)) 7 rfl (fun _ x => by have e : (l2 ++ ([] : List EN.T)) = l2 ++ pin m := congrArg (fun z => l2 ++ z) ((hl190).symm.trans (pin_end (q := m) (i := i) (by omega))); rw [← e]; exact x) hs205))⟩))))))
   ·
    by_cases c206 : (64 : Int) < ((l2.length : Int) + ((pin (m.take (i : Int).toNat)).length : Int))
    ·
     obtain ⟨_, H207, hr208, rfl, hs209⟩ := join_full_r _ (H8 : Go.Lg.Heap) (On.call [5, 8] [0, 1, 2, 3, 4, 6, 7] (by kernel_rfl) hs189) (q := q2) (room := 64) (l := l2) (k := k191) (d := d192) (o := o194) (cp := cd195) (L := L193) (m := (pin (m.take (i : Int).toNat))) (by first | rfl | omega | (simp; done) | (simp; omega)) (hl198) (by first | rfl | omega | (simp; done) | (simp; omega))
     have hs209 : On [R, pts c (.obj [rff ks S, vi hand, .ptr q0 0, .ptr q1 0, .ptr q2 0]), pts ks (rowO NI true 0 S), ringP EN q0 64 l0, ringP EN q1 64 l1, pts k (rowO EN true d L), pts n3 (cntO PN (ones kz)), ringP EN q2 64 l2, pts k191 (rowO EN true d192 L193)] H207 := On.flat hs209
     refine rSq [(6, yp q2, H8), (8, xi 2, H207)] [(6, xi 2)] H207
       (cast (Jai (Ja (t := 50) (off := 4) (v := .one (.ptr q2 0)) (On.at hs189 1 rfl) (by kernel_rfl)) (Jai (Jl hr208 (by kernel_rfl)) trivial)) (by kernel_rfl)) (by kernel_rfl) ?_
     refine Wp.gen hs209 ?_
     intro H210 hs211
     refine Wp.ret ?_
     refine ⟨Or.inr rfl, [.one (vi 2)], (by kernel_rfl), ?_⟩
     exact .inr (.inr (.inr (.inr (.inr (.inl (⟨(⟨by rw [← List.nil_append (pids m), ← pids_end (by omega) g3]; exact g5, by rw [← List.nil_append (pids m), ← pids_end (by omega) g3]; exact g6, by rw [← List.nil_append (pids m), ← pids_end (by omega) g3]; exact g7, by rw [← List.nil_append (pids m), ← pids_end (by omega) g3]; exact g8⟩ : JoinOk m l0 l1 l2), rfl, by omega, rfl, (On.pick [0, 1, 2, 3, 4, 7, 5] [6, 8] (by kernel_rfl) hs211)⟩))))))
    ·
     have hlfz212 : ((l2 ++ (pin (m.take (i : Int).toNat))).length : Int) = ((l2.length : Int) + ((pin (m.take (i : Int).toNat)).length : Int)) := by { first | rfl | omega | (simp; done) | (simp; omega) }
     obtain ⟨_, H214, hr215, rfl, hs216⟩ := join_ok_r _ (H8 : Go.Lg.Heap) (On.call [5, 8] [0, 1, 2, 3, 4, 6, 7] (by kernel_rfl) hs189) (q := q2) (room := 64) (l := l2) (k := k191) (d := d192) (o := o194) (cp := cd195) (L := L193) (m := (pin (m.take (i : Int).toNat))) (by first | rfl | omega | (simp; done) | (simp; omega)) (hl198) (by first | rfl | omega | (simp; done) | (simp; omega))
     have hs216 : On [R, pts c (.obj [rff ks S, vi hand, .ptr q0 0, .ptr q1 0, .ptr q2 0]), pts ks (rowO NI true 0 S), ringP EN q0 64 l0, ringP EN q1 64 l1, pts k (rowO EN true d L), pts n3 (cntO PN (ones kz)), ringP EN q2 64 (l2 ++ (pin (m.take (i : Int).toNat))), pts k191 (rowO EN true d192 L193)] H214 := On.flat hs216
     refine rSq [(6, yp q2, H8), (8, xi 0, H214)] [(6, xi 0)] H214
       (cast (Jai (Ja (t := 50) (off := 4) (v := .one (.ptr q2 0)) (On.at hs189 1 rfl) (by kernel_rfl)) (Jai (Jl hr215 (by kernel_rfl)) trivial)) (by kernel_rfl)) (by kernel_rfl) ?_
     refine Wp.gen hs216 ?_
     intro H217 hs218
     refine Wp.ret ?_
     refine ⟨Or.inr rfl, [.one (vi 0)], (by kernel_rfl), ?_⟩
     exact .inr (.inr (.inr (.inr (.inr (.inr (⟨(⟨by rw [← List.nil_append (pids m), ← pids_end (by omega) g3]; exact g5, by rw [← List.nil_append (pids m), ← pids_end (by omega) g3]; exact g6, by rw [← List.nil_append (pids m), ← pids_end (by omega) g3]; exact g7, by rw [← List.nil_append (pids m), ← pids_end (by omega) g3]; exact g8⟩ : JoinOk m l0 l1 l2), rfl, by omega, rfl, (On.pick [0, 1, 2, 3, 4, 7, 5] [6, 8] (by kernel_rfl) (On.mono (A' := ringP EN q2 64 (l2 ++ pin m)) 7 rfl (fun _ x => by have e : (l2 ++ (pin (m.take (i : Int).toNat))) = l2 ++ pin m := congrArg (fun z => l2 ++ z) (pin_end (q := m) (i := i) (by omega)); rw [← e]; exact x) hs218))⟩))))))
end Go.Proofs.Ytoidoeappihplaa
