/- Lemmas. -/
import Derived.Test.YtjdnhbnpdbpgbaaR18E
namespace Go.Proofs.Ytjdnhbnpdbpgbaa
open Go.Lg
set_option linter.unusedVariables false
set_option maxRecDepth 100000
set_option maxHeartbeats 8000000
set_option linter.unusedSimpArgs false
abbrev pin (l : List EN.T) : List EN.T := l.map fun x => (x.1, (true, ()))
theorem nd_at {A B : List PN.T} {q : List EN.T} {ks : List PN.T} {i : Int} {x : EN.T} (h : (A ++ (pids q ++ B)).Nodup) (h0 : 0 ≤ i) (hx : q[i.toNat]? = some x) (hk : ks = A ++ pids (q.take i.toNat)) : memB PN x.1 ks = false := by
  subst hk
  rw [Bool.eq_false_iff]
  intro hm
  rw [memB_iff rfl] at hm
  rw [List.nodup_append] at h
  obtain ⟨_, h2, h3⟩ := h
  rcases List.mem_append.1 hm with hm | hm
  · exact h3 _ hm _ (List.mem_append_left _ (List.mem_map.2 ⟨x, List.mem_of_getElem? hx, rfl⟩)) rfl
  · rw [List.nodup_append] at h2
    obtain ⟨y, hy, he⟩ := List.mem_map.1 hm
    obtain ⟨j, hj, rfl⟩ := List.mem_take_iff_getElem.1 hy
    obtain ⟨hi, rfl⟩ := List.getElem?_eq_some_iff.1 hx
    have := List.pairwise_iff_getElem.1 h2.1 j i.toNat (by simp; omega) (by simpa using hi) (by omega)
    simp only [List.getElem_map] at this
    exact this he
theorem pids_step {A : List PN.T} {q : List EN.T} {ks : List PN.T} {i : Int} {x : EN.T} (h0 : 0 ≤ i) (hx : q[i.toNat]? = some x) (hk : ks = A ++ pids (q.take i.toNat)) : ks ++ [x.1] = A ++ pids (q.take (i + 1).toNat) := by
  subst hk
  rw [show (i + 1).toNat = i.toNat + 1 by omega, List.take_add_one, hx]
  simp
theorem pids_end {A : List PN.T} {q : List EN.T} {ks : List PN.T} {i : Int} (hi : (q.length : Int) ≤ i) (hk : ks = A ++ pids (q.take i.toNat)) : ks = A ++ pids q := by
  rw [hk, List.take_of_length_le (by omega)]
theorem nd_snoc {ks : List PN.T} {x : PN.T} (h : ks.Nodup) (hm : memB PN x ks = false) : (ks ++ [x]).Nodup := by
  rw [List.nodup_append]
  refine ⟨h, by simp, fun a ha b hb => ?_⟩
  simp at hb
  subst hb
  rintro rfl
  exact not_memB rfl hm ha
theorem pin_step {q : List EN.T} {i : Int} {x : EN.T} (h0 : 0 ≤ i) (hx : q[i.toNat]? = some x) : pin (q.take i.toNat) ++ [(x.1, (true, ()))] = pin (q.take (i + 1).toNat) := by
  rw [show (i + 1).toNat = i.toNat + 1 by omega, List.take_add_one, hx]
  simp
theorem pin_end {q : List EN.T} {i : Int} (hi : (q.length : Int) ≤ i) : pin (q.take i.toNat) = pin q := by rw [List.take_of_length_le (by omega)]
def JoinOk (m l0 l1 l2 : List EN.T) : Prop := (pids m).Nodup ∧ (∀ p ∈ pids m, p ∉ pids l0) ∧ (∀ p ∈ pids m, p ∉ pids l1) ∧ (∀ p ∈ pids m, p ∉ pids l2)
def JoinBad (m l0 l1 l2 : List EN.T) : Prop := ¬ JoinOk m l0 l1 l2
theorem not_in {x : EN.T} {q : List EN.T} {i : Int} {l : List EN.T} (h : ∀ p ∈ pids q, p ∉ pids l) (hx : q[i.toNat]? = some x) : posI x.1 l < 0 := posI_neg.2 (h _ (List.mem_map.2 ⟨x, List.mem_of_getElem? hx, rfl⟩))
theorem out_snoc {x : PN.T} {ks : List PN.T} {l : List EN.T} (h : ∀ p ∈ ks, p ∉ pids l) (hx : posI x l < 0) : ∀ p ∈ ks ++ [x], p ∉ pids l := by
  intro p hp
  rcases List.mem_append.1 hp with hp | hp
  · exact h p hp
  · simp at hp; subst hp; exact posI_neg.1 hx
theorem join_low (R : HP) (H : HH) (c ks q0 q1 q2 : Nat) (S : List Int) (hand : Int) (l0 l1 l2 : List EN.T) (k d o : Nat) (cp : Bool) (L m : List EN.T) (kk : Int) (hs : On [R, pts c (.obj (cO ks S hand q0 q1 q2)), kP ks S, gP q0 l0, gP q1 l1, gP q2 l2, pts k (rowO EN true d L)] H) (hS : 3 ≤ (S.length : Int)) (hT : (S.length : Int) ≤ 64) (b0 : (l0.length : Int) ≤ 64) (b1 : (l1.length : Int) ≤ 64) (b2 : (l2.length : Int) ≤ 64) (ho : o + m.length ≤ L.length) (hl : (L.drop o).take m.length = m) (hm : (m.length : Int) ≤ 5864062014805) (h0 : kk < 0) : ∃ rs H', Runs pg an 21 [.one (.ptr c 0), .one (vi kk), .one (rowC k d L.length o m.length cp)] H rs H' ∧ rs = [.one (vi 1)] ∧ On [R, pts c (.obj (cO ks S hand q0 q1 q2)), kP ks S, gP q0 l0, gP q1 l1, gP q2 l2, pts k (rowO EN true d L)] H' := by
 refine rOF Try.func21 rfl ?_
 refine rs0 [(0, yp c), (1, xi kk), (2, .y (.one (rowC k d L.length o m.length cp)))] ?_
 refine wS ?_
 have hcall1 : Runs pg an 31 [.one (.ptr c 0)] H [.one (vb true)] H := by
  refine runs_of ?_
  refine rOF Try.func31 rfl ?_
  refine rs0 [(0, yp c)] ?_
  refine rSz [(2, xb true)] H (zA 6 (qL 22 0 (.one (rff ks S)) (On.at hs 1 rfl)) (zA 7 (Jc (H := H) (s := NI) (t := 22) (ty := 0) (pu := true) (capd := false) (id := ks) (d := 0) (o := 0) (n := S.length) (l := S) (e := (S.length : Int)) (On.at hs 2 rfl) (by kernel_rfl) (by first | rfl | omega | (simp only [ek_]; omega) | (simp; done) | (simp; omega))) (zL 8 (qgtrT H (S.length : Int) 0)))) ?_
  refine wE ?_
  exact ⟨Or.inr rfl, [.one (vb true)], (by kernel_rfl), ⟨rfl, rfl⟩⟩
 have hcall2 : Runs pg an 40 [.one (vi kk)] H [.one (vb false)] H := by
  refine runs_of ?_
  refine rOF Try.func40 rfl ?_
  refine rs0 [(0, xi kk)] ?_
  refine rSz [(2, xb false)] H (zL 1 (qgeqF H kk 0)) ?_
  refine wE ?_
  exact ⟨Or.inr rfl, [.one (vb false)], (by kernel_rfl), ⟨rfl, rfl⟩⟩
 refine rSz [(0, yp c), (1, xi kk), (2, .y (.one (rowC k d L.length o m.length cp))), (18, xb true)] H (zA 1 (qC1 hcall1) (zL 5 (qC1 hcall2))) ?_
 refine wTa ?_
 refine rs0 [(6, xi 1)] ?_
 refine wE ?_
 refine ⟨Or.inr rfl, [.one (vi 1)], (by kernel_rfl), ?_⟩
 exact ⟨rfl, (On.pick [0, 1, 2, 3, 4, 5, 6] [] (by kernel_rfl) hs)⟩
theorem join_high (R : HP) (H : HH) (c ks q0 q1 q2 : Nat) (S : List Int) (hand : Int) (l0 l1 l2 : List EN.T) (k d o : Nat) (cp : Bool) (L m : List EN.T) (kk : Int) (hs : On [R, pts c (.obj (cO ks S hand q0 q1 q2)), kP ks S, gP q0 l0, gP q1 l1, gP q2 l2, pts k (rowO EN true d L)] H) (hS : 3 ≤ (S.length : Int)) (hT : (S.length : Int) ≤ 64) (b0 : (l0.length : Int) ≤ 64) (b1 : (l1.length : Int) ≤ 64) (b2 : (l2.length : Int) ≤ 64) (ho : o + m.length ≤ L.length) (hl : (L.drop o).take m.length = m) (hm : (m.length : Int) ≤ 5864062014805) (h0 : 3 ≤ kk) : ∃ rs H', Runs pg an 21 [.one (.ptr c 0), .one (vi kk), .one (rowC k d L.length o m.length cp)] H rs H' ∧ rs = [.one (vi 1)] ∧ On [R, pts c (.obj (cO ks S hand q0 q1 q2)), kP ks S, gP q0 l0, gP q1 l1, gP q2 l2, pts k (rowO EN true d L)] H' := by
 refine rOF Try.func21 rfl ?_
 refine rs0 [(0, yp c), (1, xi kk), (2, .y (.one (rowC k d L.length o m.length cp)))] ?_
 refine wS ?_
 have hcall1 : Runs pg an 31 [.one (.ptr c 0)] H [.one (vb true)] H := by
  refine runs_of ?_
  refine rOF Try.func31 rfl ?_
  refine rs0 [(0, yp c)] ?_
  refine rSz [(2, xb true)] H (zA 6 (qL 22 0 (.one (rff ks S)) (On.at hs 1 rfl)) (zA 7 (Jc (H := H) (s := NI) (t := 22) (ty := 0) (pu := true) (capd := false) (id := ks) (d := 0) (o := 0) (n := S.length) (l := S) (e := (S.length : Int)) (On.at hs 2 rfl) (by kernel_rfl) (by first | rfl | omega | (simp only [ek_]; omega) | (simp; done) | (simp; omega))) (zL 8 (qgtrT H (S.length : Int) 0)))) ?_
  refine wE ?_
  exact ⟨Or.inr rfl, [.one (vb true)], (by kernel_rfl), ⟨rfl, rfl⟩⟩
 have hcall2 : Runs pg an 40 [.one (vi kk)] H [.one (vb false)] H := by
  refine runs_of ?_
  refine rOF Try.func40 rfl ?_
  refine rs0 [(0, xi kk)] ?_
  refine rSz [(2, xb false)] H (zA 1 (qgeqT H kk 0) (zL 4 (qlssF H kk 3))) ?_
  refine wE ?_
  exact ⟨Or.inr rfl, [.one (vb false)], (by kernel_rfl), ⟨rfl, rfl⟩⟩
 refine rSz [(0, yp c), (1, xi kk), (2, .y (.one (rowC k d L.length o m.length cp))), (18, xb true)] H (zA 1 (qC1 hcall1) (zL 5 (qC1 hcall2))) ?_
 refine wTa ?_
 refine rs0 [(6, xi 1)] ?_
 refine wE ?_
 refine ⟨Or.inr rfl, [.one (vi 1)], (by kernel_rfl), ?_⟩
 exact ⟨rfl, (On.pick [0, 1, 2, 3, 4, 5, 6] [] (by kernel_rfl) hs)⟩
theorem join_ok (R : HP) (H : HH) (c ks q0 q1 q2 : Nat) (S : List Int) (hand : Int) (l0 l1 l2 : List EN.T) (k d o : Nat) (cp : Bool) (L m : List EN.T) (kk : Int) (hs : On [R, pts c (.obj (cO ks S hand q0 q1 q2)), kP ks S, gP q0 l0, gP q1 l1, gP q2 l2, pts k (rowO EN true d L)] H) (hS : 3 ≤ (S.length : Int)) (hT : (S.length : Int) ≤ 64) (b0 : (l0.length : Int) ≤ 64) (b1 : (l1.length : Int) ≤ 64) (b2 : (l2.length : Int) ≤ 64) (ho : o + m.length ≤ L.length) (hl : (L.drop o).take m.length = m) (hm : (m.length : Int) ≤ 5864062014805) (hk0 : 0 ≤ kk) (hk1 : kk < 3) : ∃ rs H', Runs pg an 21 [.one (.ptr c 0), .one (vi kk), .one (rowC k d L.length o m.length cp)] H rs H' ∧ ((JoinBad m l0 l1 l2 ∧ rs = [.one (vi 1)] ∧ On [R, pts c (.obj (cO ks S hand q0 q1 q2)), kP ks S, gP q0 l0, gP q1 l1, gP q2 l2, pts k (rowO EN true d L)] H') ∨ (JoinOk m l0 l1 l2 ∧ kk = 0 ∧ 64 < (l0.length : Int) + m.length ∧ rs = [.one (vi 2)] ∧ On [R, pts c (.obj (cO ks S hand q0 q1 q2)), kP ks S, gP q0 l0, gP q1 l1, gP q2 l2, pts k (rowO EN true d L)] H') ∨ (JoinOk m l0 l1 l2 ∧ kk = 0 ∧ (l0.length : Int) + m.length ≤ 64 ∧ rs = [.one (vi 0)] ∧ On [R, pts c (.obj (cO ks S hand q0 q1 q2)), kP ks S, gP q0 (l0 ++ pin m), gP q1 l1, gP q2 l2, pts k (rowO EN true d L)] H') ∨ (JoinOk m l0 l1 l2 ∧ kk = 1 ∧ 64 < (l1.length : Int) + m.length ∧ rs = [.one (vi 2)] ∧ On [R, pts c (.obj (cO ks S hand q0 q1 q2)), kP ks S, gP q0 l0, gP q1 l1, gP q2 l2, pts k (rowO EN true d L)] H') ∨ (JoinOk m l0 l1 l2 ∧ kk = 1 ∧ (l1.length : Int) + m.length ≤ 64 ∧ rs = [.one (vi 0)] ∧ On [R, pts c (.obj (cO ks S hand q0 q1 q2)), kP ks S, gP q0 l0, gP q1 (l1 ++ pin m), gP q2 l2, pts k (rowO EN true d L)] H') ∨ (JoinOk m l0 l1 l2 ∧ kk = 2 ∧ 64 < (l2.length : Int) + m.length ∧ rs = [.one (vi 2)] ∧ On [R, pts c (.obj (cO ks S hand q0 q1 q2)), kP ks S, gP q0 l0, gP q1 l1, gP q2 l2, pts k (rowO EN true d L)] H') ∨ (JoinOk m l0 l1 l2 ∧ kk = 2 ∧ (l2.length : Int) + m.length ≤ 64 ∧ rs = [.one (vi 0)] ∧ On [R, pts c (.obj (cO ks S hand q0 q1 q2)), kP ks S, gP q0 l0, gP q1 l1, gP q2 (l2 ++ pin m), pts k (rowO EN true d L)] H')) := by
 refine rOF Try.func21 rfl ?_
 refine rs0 [(0, yp c), (1, xi kk), (2, .y (.one (rowC k d L.length o m.length cp)))] ?_
 refine wS ?_
 have hcall1 : Runs pg an 31 [.one (.ptr c 0)] H [.one (vb true)] H := by
  refine runs_of ?_
  refine rOF Try.func31 rfl ?_
  refine rs0 [(0, yp c)] ?_
  refine rSz [(2, xb true)] H (zA 6 (qL 22 0 (.one (rff ks S)) (On.at hs 1 rfl)) (zA 7 (Jc (H := H) (s := NI) (t := 22) (ty := 0) (pu := true) (capd := false) (id := ks) (d := 0) (o := 0) (n := S.length) (l := S) (e := (S.length : Int)) (On.at hs 2 rfl) (by kernel_rfl) (by first | rfl | omega | (simp only [ek_]; omega) | (simp; done) | (simp; omega))) (zL 8 (qgtrT H (S.length : Int) 0)))) ?_
  refine wE ?_
  exact ⟨Or.inr rfl, [.one (vb true)], (by kernel_rfl), ⟨rfl, rfl⟩⟩
 have hcall2 : Runs pg an 40 [.one (vi kk)] H [.one (vb true)] H := by
  refine runs_of ?_
  refine rOF Try.func40 rfl ?_
  refine rs0 [(0, xi kk)] ?_
  refine rSz [(2, xb true)] H (zA 1 (qgeqT H kk 0) (zL 4 (qlssT H kk 3))) ?_
  refine wE ?_
  exact ⟨Or.inr rfl, [.one (vb true)], (by kernel_rfl), ⟨rfl, rfl⟩⟩
 refine rSz [(0, yp c), (1, xi kk), (2, .y (.one (rowC k d L.length o m.length cp))), (18, xb false)] H (zA 1 (qC1 hcall1) (zL 5 (qC1 hcall2))) ?_
 refine wFk ?_
 refine rs0 [(0, yp c), (1, xi kk), (2, .y (.one (rowC k d L.length o m.length cp))), (7, .y (.one (nilC)))] ?_
 obtain ⟨n3, hn3⟩ := lX H
 refine rGz [(0, yp c), (1, xi kk), (2, .y (.one (rowC k d L.length o m.length cp))), (7, .y (.one (nilC))), (8, .y (.one (.mp n3)))] (On.new' hn3 (cntO PN (ones ([] : List PN.T))) hs) (zL 0 (Je1 (H := H) (s := PN) (t := 77) (ty := 0) (n := n3) hn3 (by kernel_rfl))) fun H4 hs5 => ?_
 refine wS ?_
 refine rSz [(0, yp c), (1, xi kk), (7, .y (.one (nilC))), (8, .y (.one (.mp n3))), (20, .y (.one (rowC k d L.length o m.length cp))), (21, xi (m.length : Int)), (22, xi 0)] H4 (zL 1 (Jc (H := H4) (s := EN) (t := 23) (ty := 0) (pu := true) (capd := cp) (id := k) (d := d) (o := o) (n := m.length) (l := L) (e := (m.length : Int)) (On.at hs5 6 rfl) (by kernel_rfl) (by first | rfl | omega | (simp only [ek_]; omega) | (simp; done) | (simp; omega)))) ?_
 refine wB ?_
 have hs6 : On [R, pts c (.obj (cO ks S hand q0 q1 q2)), kP ks S, gP q0 l0, gP q1 l1, gP q2 l2, pts k (rowO EN true d L), pts n3 (cntO PN (ones ([] : List PN.T))), itemsP EN (nilC) (pin (m.take (0 : Int).toNat))] H4 := sH hs5 [] [0, 1, 2, 3, 4, 5, 6, 7] (fun _ _ => by rw [show (pin (m.take (0 : Int).toNat)) = ([] : List EN.T) from by simp]; exact items_nil)
 refine Wp.loop (T := HH × Int × C × List PN.T) (fun t => match t with | (H8, i, cv, kz) => (((m.length : Int) - i).toNat : Nat)) (fun t => match t with | (H8, i, cv, kz) => ([(0, yp c), (1, xi kk), (7, .y (.one (cv))), (8, .y (.one (.mp n3))), (20, .y (.one (rowC k d L.length o m.length cp))), (21, xi (m.length : Int)), (22, xi i)] : Env)) (fun t => match t with | (H8, i, cv, kz) => (H8 : HH))
   (fun t => match t with | (H8, i, cv, kz) => (On [R, pts c (.obj (cO ks S hand q0 q1 q2)), kP ks S, gP q0 l0, gP q1 l1, gP q2 l2, pts k (rowO EN true d L), pts n3 (cntO PN (ones kz)), itemsP EN cv (pin (m.take (i : Int).toNat))] H8 ∧ (0 ≤ i) ∧ (i ≤ (m.length : Int)) ∧ (kz = [] ++ pids (m.take i.toNat)) ∧ (((pin (m.take (i : Int).toNat)).length : Int) = i) ∧ (kz.Nodup) ∧ (∀ p ∈ kz, p ∉ pids l0) ∧ (∀ p ∈ kz, p ∉ pids l1) ∧ (∀ p ∈ kz, p ∉ pids l2) : Prop)) (H4, 0, (nilC), []) (by kernel_rfl) (⟨(On.pick [0, 1, 2, 3, 4, 5, 6, 7, 8] [] (by kernel_rfl) hs6), by omega, by omega, by simp, by simp, by simp, by simp, by simp, by simp⟩) ?_
 rintro ⟨H8, i, cv, kz⟩ ⟨hs9, g1, g2, g3, g4, g5, g6, g7, g8⟩
 show Wp _ _ _ _ [(0, yp c), (1, xi kk), (7, .y (.one (cv))), (8, .y (.one (.mp n3))), (20, .y (.one (rowC k d L.length o m.length cp))), (21, xi (m.length : Int)), (22, xi i)] H8 _
 by_cases c10 : (i : Int) < (m.length : Int)
 ·
  refine rSz [(0, yp c), (1, xi kk), (7, .y (.one (cv))), (8, .y (.one (.mp n3))), (20, .y (.one (rowC k d L.length o m.length cp))), (21, xi (m.length : Int)), (22, xi i), (23, xb true)] H8 (zL 0 (qlssT H8 i (m.length : Int))) ?_
  refine wS (wTk ?_)
  refine wS (wB ?_)
  obtain ⟨x11, hx11⟩ : ∃ x : EN.T, m[(i : Int).toNat]? = some x := get_of (by first | rfl | omega | (simp only [ek_]; omega) | (simp; done) | (simp; omega))
  obtain ⟨n12, hn12⟩ := lX H8
  refine rGz [(0, yp c), (1, xi kk), (7, .y (.one (cv))), (8, .y (.one (.mp n3))), (10, yp n12), (20, .y (.one (rowC k d L.length o m.length cp))), (21, xi (m.length : Int)), (22, xi i)] (On.put (.obj [vi x11.1.1, vi x11.1.2.1, vb x11.2.1]) (On.new' hn12 (.obj [vi 0, vi 0, vb false]) hs9) 9 rfl) (zA 0 (Jl (H := H8) (s := EN) (t := 23) (el := 40) (ty := 0) (pu := true) (capd := cp) (id := k) (d := d) (o := o) (n := m.length) (j := ((((o : Int) + i) : Int).toNat)) (l := L) (i := i) (On.at hs9 6 rfl) Try.underlying23 (by kernel_rfl) (by omega) (by first | rfl | omega | (simp only [ek_]; omega) | (simp; done) | (simp; omega)) (by first | rfl | omega | (simp only [ek_]; omega) | (simp; done) | (simp; omega)) (by first | rfl | omega | (simp only [ek_]; omega) | (simp; done) | (simp; omega))) (zA 1 (Jt (H := H8) (s := EN) (t := 40) (ty := 0) (pu := true) (id := k) (d := d) (j := ((((o : Int) + i) : Int).toNat)) (o := 0) (n := 3) (l := L) (x := x11) (v := .agg [vi x11.1.1, vi x11.1.2.1, vb x11.2.1]) (On.at hs9 6 rfl) (by kernel_rfl) (by kernel_rfl) (of_content (hl) hx11 (by first | rfl | omega | (simp only [ek_]; omega) | (simp; done) | (simp; omega))) (by kernel_rfl)) (zA 2 (qO 40 [vi 0, vi 0, vb false] hn12) (zL 3 (qS 40 0 (.agg [vi x11.1.1, vi x11.1.2.1, vb x11.2.1]) (On.at (On.new' hn12 (.obj [vi 0, vi 0, vb false]) hs9) 9 rfl)))))) fun H13 hs14 => ?_
  rcases Bool.eq_false_or_eq_true ((memB PN x11.1 kz)) with c15 | c15
  ·
   obtain ⟨j16, hg17, hk18⟩ := seek_in (CntOK.flat there_ok) c15
   refine rGz [(0, yp c), (1, xi kk), (7, .y (.one (cv))), (8, .y (.one (.mp n3))), (10, yp n12), (20, .y (.one (rowC k d L.length o m.length cp))), (21, xi (m.length : Int)), (22, xi i)] (On.put (cntO PN ((ones kz).set j16 (x11.1, 2))) (On.put (cntO PN (ones kz)) hs14 7 rfl) 7 rfl) (zA 2 (qL 38 0 (.agg [vi x11.1.1, vi x11.1.2.1]) (On.at hs14 9 rfl)) (zA 3 (Je (H := H13) (s := PN) (t := 77) (ty := 0) (id := n3) (x := x11.1) (l := ones kz) (v := 1) (On.at hs14 7 rfl) there_ok (got_one (CntOK.flat there_ok) c15)) (zA 5 (Jw (H := H13) (s := PN) (t := 77) (ty := 0) (id := n3) (x := x11.1) (l := ones kz) (j := j16) (v := 1) (On.at hs14 7 rfl) there_ok hk18) (zL 7 (Jx (H := (sto H13 n3 (cntO PN (ones kz)))) (s := PN) (t := 77) (ty := 0) (id := n3) (x := x11.1) (l := ones kz) (j := j16) (v0 := 1) (v := 2) (b := (j16 : Int)) (On.at (On.put (cntO PN (ones kz)) hs14 7 rfl) 7 rfl) rfl (ones_get hg17)))))) fun H19 hs20 => ?_
   refine wS ?_
   refine rSz [(0, yp c), (1, xi kk), (7, .y (.one (cv))), (8, .y (.one (.mp n3))), (10, yp n12), (20, .y (.one (rowC k d L.length o m.length cp))), (21, xi (m.length : Int)), (22, xi i), (43, xb true)] H19 (zA 2 (qL 38 0 (.agg [vi x11.1.1, vi x11.1.2.1]) (On.at hs20 9 rfl)) (zL 3 (Je (H := H19) (s := PN) (t := 77) (ty := 0) (id := n3) (x := x11.1) (l := (ones kz).set j16 (x11.1, 2)) (v := 2) (On.at hs20 7 rfl) there_ok (got_set (CntOK.flat there_ok) hk18)))) ?_
   refine wTa ?_
   refine rs0 [(6, xi 1)] ?_
   refine wE ?_
   refine ⟨Or.inr rfl, [.one (vi 1)], (by kernel_rfl), ?_⟩
   exact .inl (⟨(fun h => by have := nd_at (A := []) (B := []) (x := x11) (by simpa using h.1) g1 hx11 g3; rw [this] at c15; cases c15), rfl, (On.pick [0, 1, 2, 3, 4, 5, 6] [7, 8, 9] (by kernel_rfl) hs20)⟩)
  refine rGz [(0, yp c), (1, xi kk), (7, .y (.one (cv))), (8, .y (.one (.mp n3))), (10, yp n12), (20, .y (.one (rowC k d L.length o m.length cp))), (21, xi (m.length : Int)), (22, xi i)] (On.put (cntO PN (ones (kz ++ [x11.1]))) (On.put (cntO PN (ones kz ++ [(x11.1, 0)])) hs14 7 rfl) 7 rfl) (zA 2 (qL 38 0 (.agg [vi x11.1.1, vi x11.1.2.1]) (On.at hs14 9 rfl)) (zA 3 (Je (H := H13) (s := PN) (t := 77) (ty := 0) (id := n3) (x := x11.1) (l := ones kz) (v := 0) (On.at hs14 7 rfl) there_ok (got_none (CntOK.flat there_ok) c15)) (zA 5 (Jy (H := H13) (s := PN) (t := 77) (ty := 0) (id := n3) (x := x11.1) (l := ones kz) (On.at hs14 7 rfl) there_ok (seek_out (CntOK.flat there_ok) c15)) (zL 7 (Jz (H := (sto H13 n3 (cntO PN (ones kz ++ [(x11.1, 0)])))) (s := PN) (t := 77) (ty := 0) (id := n3) (x := x11.1) (l := kz) (b := ((ones kz).length : Int)) (On.at (On.put (cntO PN (ones kz ++ [(x11.1, 0)])) hs14 7 rfl) 7 rfl) rfl))))) fun H21 hs22 => ?_
  refine wS ?_
  obtain ⟨n24, hn24⟩ := lX H21
  have hz26 := posI_bd x11.1 l0
  have hz31 := posI_bd x11.1 l1
  have hz36 := posI_bd x11.1 l2
  by_cases c41 : (0 : Int) ≤ (posI x11.1 l0)
  ·
   obtain ⟨_, H46, hr47, rfl, hs48⟩ := find_0 _ ((H21 ++ [.obj [vi x11.1.1, vi x11.1.2.1]]) : HH) (On.call [1, 2, 3, 4, 5] [0, 6, 7, 8, 9, 10] (by kernel_rfl) (On.new' hn24 (.obj [vi x11.1.1, vi x11.1.2.1]) hs22)) (c := c) (ks := ks) (q0 := q0) (q1 := q1) (q2 := q2) (S := S) (hand := hand) (l0 := l0) (l1 := l1) (l2 := l2) (p := x11.1) (by omega) (by omega) (by first | rfl | omega | (simp only [ek_]; omega) | (simp; done) | (simp; omega)) (by first | rfl | omega | (simp only [ek_]; omega) | (simp; done) | (simp; omega)) (by first | rfl | omega | (simp only [ek_]; omega) | (simp; done) | (simp; omega)) (by omega)
   have hs48 : On [R, pts k (rowO EN true d L), pts n3 (cntO PN (ones (kz ++ [x11.1]))), itemsP EN cv (pin (m.take (i : Int).toNat)), pts n12 (.obj [vi x11.1.1, vi x11.1.2.1, vb x11.2.1]), pts n24 (.obj [vi x11.1.1, vi x11.1.2.1]), pts c (.obj (cO ks S hand q0 q1 q2)), kP ks S, gP q0 l0, gP q1 l1, gP q2 l2] H46 := On.flat hs48
   have hcall49 : Runs pg an 41 [.one (.ptr c 0), .agg [vi x11.1.1, vi x11.1.2.1]] H21 [.one (vb true)] H46 := by
    refine runs_of ?_
    refine rOF Try.func41 rfl ?_
    refine rSz [(0, yp c), (3, yp n24)] (H21 ++ [.obj [vi x11.1.1, vi x11.1.2.1]]) (zL 0 (qB 38 [vi x11.1.1, vi x11.1.2.1] hn24)) ?_
    refine rSz [(7, xi 0)] H46 (zA 1 (qL 38 0 (.agg [vi x11.1.1, vi x11.1.2.1]) (On.at (On.new' hn24 (.obj [vi x11.1.1, vi x11.1.2.1]) hs22) 10 rfl)) (zL 2 (qC2 hr47))) ?_
    refine rs0 [(4, xb true)] ?_
    refine wE ?_
    exact ⟨Or.inr rfl, [.one (vb true)], (by kernel_rfl), ⟨rfl, rfl⟩⟩
   refine rGz [(0, yp c), (1, xi kk), (7, .y (.one (cv))), (8, .y (.one (.mp n3))), (10, yp n12), (20, .y (.one (rowC k d L.length o m.length cp))), (21, xi (m.length : Int)), (22, xi i), (43, xb true)] hs48 (zA 2 (qL 38 0 (.agg [vi x11.1.1, vi x11.1.2.1]) (On.at hs22 9 rfl)) (zA 3 (Je (H := H21) (s := PN) (t := 77) (ty := 0) (id := n3) (x := x11.1) (l := ones (kz ++ [x11.1])) (v := 1) (On.at hs22 7 rfl) there_ok (got_one (CntOK.flat there_ok) (memB_last (CntOK.flat there_ok)))) (zA 8 (qL 38 0 (.agg [vi x11.1.1, vi x11.1.2.1]) (On.at hs22 9 rfl)) (zL 9 (qC2 hcall49))))) fun H50 hs51 => ?_
   refine wTa ?_
   refine rs0 [(6, xi 1)] ?_
   refine wE ?_
   refine ⟨Or.inr rfl, [.one (vi 1)], (by kernel_rfl), ?_⟩
   exact .inl (⟨(fun h => absurd (not_in h.2.1 hx11 : posI x11.1 l0 < 0) (by omega)), rfl, (On.pick [0, 6, 7, 8, 9, 10, 1] [2, 3, 4, 5] (by kernel_rfl) hs51)⟩)
  by_cases c56 : (0 : Int) ≤ (posI x11.1 l1)
  ·
   obtain ⟨_, H61, hr62, rfl, hs63⟩ := find_1 _ ((H21 ++ [.obj [vi x11.1.1, vi x11.1.2.1]]) : HH) (On.call [1, 2, 3, 4, 5] [0, 6, 7, 8, 9, 10] (by kernel_rfl) (On.new' hn24 (.obj [vi x11.1.1, vi x11.1.2.1]) hs22)) (c := c) (ks := ks) (q0 := q0) (q1 := q1) (q2 := q2) (S := S) (hand := hand) (l0 := l0) (l1 := l1) (l2 := l2) (p := x11.1) (by omega) (by omega) (by first | rfl | omega | (simp only [ek_]; omega) | (simp; done) | (simp; omega)) (by first | rfl | omega | (simp only [ek_]; omega) | (simp; done) | (simp; omega)) (by first | rfl | omega | (simp only [ek_]; omega) | (simp; done) | (simp; omega)) (by omega) (by omega)
   have hs63 : On [R, pts k (rowO EN true d L), pts n3 (cntO PN (ones (kz ++ [x11.1]))), itemsP EN cv (pin (m.take (i : Int).toNat)), pts n12 (.obj [vi x11.1.1, vi x11.1.2.1, vb x11.2.1]), pts n24 (.obj [vi x11.1.1, vi x11.1.2.1]), pts c (.obj (cO ks S hand q0 q1 q2)), kP ks S, gP q0 l0, gP q1 l1, gP q2 l2] H61 := On.flat hs63
   have hcall64 : Runs pg an 41 [.one (.ptr c 0), .agg [vi x11.1.1, vi x11.1.2.1]] H21 [.one (vb true)] H61 := by
    refine runs_of ?_
    refine rOF Try.func41 rfl ?_
    refine rSz [(0, yp c), (3, yp n24)] (H21 ++ [.obj [vi x11.1.1, vi x11.1.2.1]]) (zL 0 (qB 38 [vi x11.1.1, vi x11.1.2.1] hn24)) ?_
    refine rSz [(7, xi 0)] H61 (zA 1 (qL 38 0 (.agg [vi x11.1.1, vi x11.1.2.1]) (On.at (On.new' hn24 (.obj [vi x11.1.1, vi x11.1.2.1]) hs22) 10 rfl)) (zL 2 (qC2 hr62))) ?_
    refine rs0 [(4, xb true)] ?_
    refine wE ?_
    exact ⟨Or.inr rfl, [.one (vb true)], (by kernel_rfl), ⟨rfl, rfl⟩⟩
   refine rGz [(0, yp c), (1, xi kk), (7, .y (.one (cv))), (8, .y (.one (.mp n3))), (10, yp n12), (20, .y (.one (rowC k d L.length o m.length cp))), (21, xi (m.length : Int)), (22, xi i), (43, xb true)] hs63 (zA 2 (qL 38 0 (.agg [vi x11.1.1, vi x11.1.2.1]) (On.at hs22 9 rfl)) (zA 3 (Je (H := H21) (s := PN) (t := 77) (ty := 0) (id := n3) (x := x11.1) (l := ones (kz ++ [x11.1])) (v := 1) (On.at hs22 7 rfl) there_ok (got_one (CntOK.flat there_ok) (memB_last (CntOK.flat there_ok)))) (zA 8 (qL 38 0 (.agg [vi x11.1.1, vi x11.1.2.1]) (On.at hs22 9 rfl)) (zL 9 (qC2 hcall64))))) fun H65 hs66 => ?_
   refine wTa ?_
   refine rs0 [(6, xi 1)] ?_
   refine wE ?_
   refine ⟨Or.inr rfl, [.one (vi 1)], (by kernel_rfl), ?_⟩
   exact .inl (⟨(fun h => absurd (not_in h.2.2.1 hx11 : posI x11.1 l1 < 0) (by omega)), rfl, (On.pick [0, 6, 7, 8, 9, 10, 1] [2, 3, 4, 5] (by kernel_rfl) hs66)⟩)
  by_cases c71 : (0 : Int) ≤ (posI x11.1 l2)
  ·
   obtain ⟨_, H76, hr77, rfl, hs78⟩ := find_2 _ ((H21 ++ [.obj [vi x11.1.1, vi x11.1.2.1]]) : HH) (On.call [1, 2, 3, 4, 5] [0, 6, 7, 8, 9, 10] (by kernel_rfl) (On.new' hn24 (.obj [vi x11.1.1, vi x11.1.2.1]) hs22)) (c := c) (ks := ks) (q0 := q0) (q1 := q1) (q2 := q2) (S := S) (hand := hand) (l0 := l0) (l1 := l1) (l2 := l2) (p := x11.1) (by omega) (by omega) (by first | rfl | omega | (simp only [ek_]; omega) | (simp; done) | (simp; omega)) (by first | rfl | omega | (simp only [ek_]; omega) | (simp; done) | (simp; omega)) (by first | rfl | omega | (simp only [ek_]; omega) | (simp; done) | (simp; omega)) (by omega) (by omega) (by omega)
   have hs78 : On [R, pts k (rowO EN true d L), pts n3 (cntO PN (ones (kz ++ [x11.1]))), itemsP EN cv (pin (m.take (i : Int).toNat)), pts n12 (.obj [vi x11.1.1, vi x11.1.2.1, vb x11.2.1]), pts n24 (.obj [vi x11.1.1, vi x11.1.2.1]), pts c (.obj (cO ks S hand q0 q1 q2)), kP ks S, gP q0 l0, gP q1 l1, gP q2 l2] H76 := On.flat hs78
   have hcall79 : Runs pg an 41 [.one (.ptr c 0), .agg [vi x11.1.1, vi x11.1.2.1]] H21 [.one (vb true)] H76 := by
    refine runs_of ?_
    refine rOF Try.func41 rfl ?_
    refine rSz [(0, yp c), (3, yp n24)] (H21 ++ [.obj [vi x11.1.1, vi x11.1.2.1]]) (zL 0 (qB 38 [vi x11.1.1, vi x11.1.2.1] hn24)) ?_
    refine rSz [(7, xi 0)] H76 (zA 1 (qL 38 0 (.agg [vi x11.1.1, vi x11.1.2.1]) (On.at (On.new' hn24 (.obj [vi x11.1.1, vi x11.1.2.1]) hs22) 10 rfl)) (zL 2 (qC2 hr77))) ?_
    refine rs0 [(4, xb true)] ?_
    refine wE ?_
    exact ⟨Or.inr rfl, [.one (vb true)], (by kernel_rfl), ⟨rfl, rfl⟩⟩
   refine rGz [(0, yp c), (1, xi kk), (7, .y (.one (cv))), (8, .y (.one (.mp n3))), (10, yp n12), (20, .y (.one (rowC k d L.length o m.length cp))), (21, xi (m.length : Int)), (22, xi i), (43, xb true)] hs78 (zA 2 (qL 38 0 (.agg [vi x11.1.1, vi x11.1.2.1]) (On.at hs22 9 rfl)) (zA 3 (Je (H := H21) (s := PN) (t := 77) (ty := 0) (id := n3) (x := x11.1) (l := ones (kz ++ [x11.1])) (v := 1) (On.at hs22 7 rfl) there_ok (got_one (CntOK.flat there_ok) (memB_last (CntOK.flat there_ok)))) (zA 8 (qL 38 0 (.agg [vi x11.1.1, vi x11.1.2.1]) (On.at hs22 9 rfl)) (zL 9 (qC2 hcall79))))) fun H80 hs81 => ?_
   refine wTa ?_
   refine rs0 [(6, xi 1)] ?_
   refine wE ?_
   refine ⟨Or.inr rfl, [.one (vi 1)], (by kernel_rfl), ?_⟩
   exact .inl (⟨(fun h => absurd (not_in h.2.2.2 hx11 : posI x11.1 l2 < 0) (by omega)), rfl, (On.pick [0, 6, 7, 8, 9, 10, 1] [2, 3, 4, 5] (by kernel_rfl) hs81)⟩)
  obtain ⟨_, H86, hr87, rfl, hs88⟩ := find_3 _ ((H21 ++ [.obj [vi x11.1.1, vi x11.1.2.1]]) : HH) (On.call [1, 2, 3, 4, 5] [0, 6, 7, 8, 9, 10] (by kernel_rfl) (On.new' hn24 (.obj [vi x11.1.1, vi x11.1.2.1]) hs22)) (c := c) (ks := ks) (q0 := q0) (q1 := q1) (q2 := q2) (S := S) (hand := hand) (l0 := l0) (l1 := l1) (l2 := l2) (p := x11.1) (by omega) (by omega) (by first | rfl | omega | (simp only [ek_]; omega) | (simp; done) | (simp; omega)) (by first | rfl | omega | (simp only [ek_]; omega) | (simp; done) | (simp; omega)) (by first | rfl | omega | (simp only [ek_]; omega) | (simp; done) | (simp; omega)) (by omega) (by omega) (by omega)
  have hs88 : On [R, pts k (rowO EN true d L), pts n3 (cntO PN (ones (kz ++ [x11.1]))), itemsP EN cv (pin (m.take (i : Int).toNat)), pts n12 (.obj [vi x11.1.1, vi x11.1.2.1, vb x11.2.1]), pts n24 (.obj [vi x11.1.1, vi x11.1.2.1]), pts c (.obj (cO ks S hand q0 q1 q2)), kP ks S, gP q0 l0, gP q1 l1, gP q2 l2] H86 := On.flat hs88
  have hcall89 : Runs pg an 41 [.one (.ptr c 0), .agg [vi x11.1.1, vi x11.1.2.1]] H21 [.one (vb false)] H86 := by
   refine runs_of ?_
   refine rOF Try.func41 rfl ?_
   refine rSz [(0, yp c), (3, yp n24)] (H21 ++ [.obj [vi x11.1.1, vi x11.1.2.1]]) (zL 0 (qB 38 [vi x11.1.1, vi x11.1.2.1] hn24)) ?_
   refine rSz [(7, xi 3)] H86 (zA 1 (qL 38 0 (.agg [vi x11.1.1, vi x11.1.2.1]) (On.at (On.new' hn24 (.obj [vi x11.1.1, vi x11.1.2.1]) hs22) 10 rfl)) (zL 2 (qC2 hr87))) ?_
   refine rs0 [(4, xb false)] ?_
   refine wE ?_
   exact ⟨Or.inr rfl, [.one (vb false)], (by kernel_rfl), ⟨rfl, rfl⟩⟩
  refine rGz [(0, yp c), (1, xi kk), (7, .y (.one (cv))), (8, .y (.one (.mp n3))), (10, yp n12), (20, .y (.one (rowC k d L.length o m.length cp))), (21, xi (m.length : Int)), (22, xi i), (43, xb false)] hs88 (zA 2 (qL 38 0 (.agg [vi x11.1.1, vi x11.1.2.1]) (On.at hs22 9 rfl)) (zA 3 (Je (H := H21) (s := PN) (t := 77) (ty := 0) (id := n3) (x := x11.1) (l := ones (kz ++ [x11.1])) (v := 1) (On.at hs22 7 rfl) there_ok (got_one (CntOK.flat there_ok) (memB_last (CntOK.flat there_ok)))) (zA 8 (qL 38 0 (.agg [vi x11.1.1, vi x11.1.2.1]) (On.at hs22 9 rfl)) (zL 9 (qC2 hcall89))))) fun H90 hs91 => ?_
  refine wFk ?_
  obtain ⟨rfl, hl94, hs92⟩ | ⟨k95, d96, L97, o98, cd99, rfl, ho100, hc101, hl102, hs93⟩ := items_open hs91 3 rfl
  ·
   have hl94n : ((pin (m.take (i : Int).toNat)).length : Int) = 0 := by rw [hl94]; rfl
   obtain ⟨n103, hn103⟩ := lX H90
   have hlfz104 : ([(x11.1, (true, ()))].length : Int) = 1 := by { first | rfl | omega | (simp only [ek_]; omega) | (simp; done) | (simp; omega) }
   refine rHz [(0, yp c), (1, xi kk), (7, .y (.one (rowC n103 0 ([(x11.1, (true, ()))] : List EN.T).length 0 (([(x11.1, (true, ()))] : List EN.T).length) false))), (8, .y (.one (.mp n3))), (20, .y (.one (rowC k d L.length o m.length cp))), (21, xi (m.length : Int)), (22, xi i)] (On.new' hn103 (rowO EN true 0 ([(x11.1, (true, ()))] : List EN.T)) hs92) (zA 2 (qL 38 0 (.agg [vi x11.1.1, vi x11.1.2.1]) (On.at hs92 3 rfl)) (zL 5 (Jm (H := H90) (s := EN) (t := 23) (u := 23) (el := 40) (by_ := 24) (z := [vi 0, vi 0, vb false]) (ty := 0) (b' := false) (nil' := true) (pu := true) (puy := true) (m := 1) (n' := ([(x11.1, (true, ()))] : List EN.T).length) (k := n103) (nl := 0) (l := ([] : List EN.T)) (lm := ([(x11.1, (true, ()))])) (l' := ([(x11.1, (true, ()))] : List EN.T)) (y := .sl false false true [vi x11.1.1, vi x11.1.2.1, vb true] 1) hn103 (by first | rfl | omega | (simp only [ek_]; omega) | (simp; done) | (simp; omega)) (by kernel_rfl) (slCells_slO (H := H90) (s := EN) (b := false) (nil := false) (capd := true) (l := [(x11.1, (true, ()))]) (n := 1) (by first | rfl | omega | (simp only [ek_]; omega) | (simp; done) | (simp; omega))) (by kernel_rfl) (by kernel_rfl) (by kernel_rfl) (by kernel_rfl) (by kernel_rfl) (by kernel_rfl) (by kernel_rfl) (by first | rfl | omega | (simp only [ek_]; omega) | (simp; done) | (simp; omega)) (by first | rfl | omega | (simp only [ek_]; omega) | (simp; done) | (simp; omega)) (by omega) (by omega) (ea_ _) (by first | rfl | omega | (simp only [ej_, ek_]; omega) | (simp; done) | (simp; omega))))) fun H106 hs107 => ?_
   refine wK ?_
   refine rRz [(0, yp c), (1, xi kk), (7, .y (.one (rowC n103 0 ([(x11.1, (true, ()))] : List EN.T).length 0 (([(x11.1, (true, ()))] : List EN.T).length) false))), (8, .y (.one (.mp n3))), (20, .y (.one (rowC k d L.length o m.length cp))), (21, xi (m.length : Int)), (22, xi (i + 1))] H106 (zL 0 (qoAdd H106 i 1 (i + 1))) ?_
   have hs108 : On [R, pts k (rowO EN true d L), pts n3 (cntO PN (ones (kz ++ [x11.1]))), pts n12 (.obj [vi x11.1.1, vi x11.1.2.1, vb x11.2.1]), pts n24 (.obj [vi x11.1.1, vi x11.1.2.1]), pts c (.obj (cO ks S hand q0 q1 q2)), kP ks S, gP q0 l0, gP q1 l1, gP q2 l2, itemsP EN (rowC n103 0 ([(x11.1, (true, ()))] : List EN.T).length 0 (([(x11.1, (true, ()))] : List EN.T).length) false) (pin (m.take ((i + 1) : Int).toNat))] H106 := sH hs107 [10] [0, 1, 2, 3, 4, 5, 6, 7, 8, 9] (fun _ x => items_row (by first | rfl | omega | (simp only [ek_]; omega) | (simp; done) | (simp; omega)) (by first | rfl | omega | (simp only [ek_]; omega) | (simp; done) | (simp; omega)) (fun _ => by first | rfl | omega | (simp only [ek_]; omega) | (simp; done) | (simp; omega)) ((dt0 rfl (Nat.le_refl _)).trans ((by rw [← pin_step g1 hx11, hl94]; rfl))) x)
   exact ⟨(H106, (i + 1), (rowC n103 0 ([(x11.1, (true, ()))] : List EN.T).length 0 (([(x11.1, (true, ()))] : List EN.T).length) false), (kz ++ [x11.1])), by kernel_rfl, (⟨(On.pick [0, 5, 6, 7, 8, 9, 1, 2, 10] [3, 4] (by kernel_rfl) hs108), by omega, by omega, pids_step g1 hx11 g3, by simp only [eo_, eh_]; omega, nd_snoc g5 c15, out_snoc g6 (by omega), out_snoc g7 (by omega), out_snoc g8 (by omega)⟩), (by show (_ : Nat) < _; simp only []; omega)⟩
  rcases Bool.eq_false_or_eq_true cd99 with rfl | rfl
  ·
   obtain ⟨n109, hn109⟩ := lX H90
   have hlfz110 : ([(x11.1, (true, ()))].length : Int) = 1 := by { first | rfl | omega | (simp only [ek_]; omega) | (simp; done) | (simp; omega) }
   have hlfz112 : (((pin (m.take (i : Int).toNat)) ++ [(x11.1, (true, ()))]).length : Int) = (((pin (m.take (i : Int).toNat)).length : Int) + 1) := by { first | rfl | omega | (simp only [ek_]; omega) | (simp; done) | (simp; omega) }
   refine rHz [(0, yp c), (1, xi kk), (7, .y (.one (rowC n109 0 ((pin (m.take (i : Int).toNat)) ++ [(x11.1, (true, ()))]).length 0 (((pin (m.take (i : Int).toNat)) ++ [(x11.1, (true, ()))]).length) false))), (8, .y (.one (.mp n3))), (20, .y (.one (rowC k d L.length o m.length cp))), (21, xi (m.length : Int)), (22, xi i)] (On.new' hn109 (rowO EN true 0 ((pin (m.take (i : Int).toNat)) ++ [(x11.1, (true, ()))])) hs93) (zA 2 (qL 38 0 (.agg [vi x11.1.1, vi x11.1.2.1]) (On.at hs93 3 rfl)) (zL 5 (Jv (H := H90) (s := EN) (t := 23) (u := 23) (el := 40) (by_ := 24) (z := [vi 0, vi 0, vb false]) (ty := 0) (pu := true) (puy := true) (id := k95) (d := d96) (o := o98) (n := ((pin (m.take (i : Int).toNat)).length)) (m := 1) (l := L97) (lm := ([(x11.1, (true, ()))])) (y := .sl false false true [vi x11.1.1, vi x11.1.2.1, vb true] 1) (n' := ((pin (m.take (i : Int).toNat)) ++ [(x11.1, (true, ()))]).length) (k := n109) (l' := ((pin (m.take (i : Int).toNat)) ++ [(x11.1, (true, ()))])) hn109 (On.at hs93 10 rfl) (slCells_slO (H := H90) (s := EN) (b := false) (nil := false) (capd := true) (l := [(x11.1, (true, ()))]) (n := 1) (by first | rfl | omega | (simp only [ek_]; omega) | (simp; done) | (simp; omega))) (by kernel_rfl) (by kernel_rfl) (by kernel_rfl) (by kernel_rfl) (by kernel_rfl) (by kernel_rfl) (by kernel_rfl) (by first | rfl | omega | (simp only [ek_]; omega) | (simp; done) | (simp; omega)) (by first | rfl | omega | (simp only [ek_]; omega) | (simp; done) | (simp; omega)) (by first | rfl | omega | (simp only [ek_]; omega) | (simp; done) | (simp; omega)) (by omega) (by omega) (congrArg (fun z => z ++ _) (hl102)) (by first | (simp only [ej_]; done) | (simp only [ej_]; first | omega | (simp; done) | (simp; omega)))))) fun H115 hs116 => ?_
   refine wK ?_
   refine rRz [(0, yp c), (1, xi kk), (7, .y (.one (rowC n109 0 ((pin (m.take (i : Int).toNat)) ++ [(x11.1, (true, ()))]).length 0 (((pin (m.take (i : Int).toNat)) ++ [(x11.1, (true, ()))]).length) false))), (8, .y (.one (.mp n3))), (20, .y (.one (rowC k d L.length o m.length cp))), (21, xi (m.length : Int)), (22, xi (i + 1))] H115 (zL 0 (qoAdd H115 i 1 (i + 1))) ?_
   have hs117 : On [R, pts k (rowO EN true d L), pts n3 (cntO PN (ones (kz ++ [x11.1]))), pts n12 (.obj [vi x11.1.1, vi x11.1.2.1, vb x11.2.1]), pts n24 (.obj [vi x11.1.1, vi x11.1.2.1]), pts c (.obj (cO ks S hand q0 q1 q2)), kP ks S, gP q0 l0, gP q1 l1, gP q2 l2, pts k95 (rowO EN true d96 L97), itemsP EN (rowC n109 0 ((pin (m.take (i : Int).toNat)) ++ [(x11.1, (true, ()))]).length 0 (((pin (m.take (i : Int).toNat)) ++ [(x11.1, (true, ()))]).length) false) (pin (m.take ((i + 1) : Int).toNat))] H115 := sH hs116 [11] [0, 1, 2, 3, 4, 5, 6, 7, 8, 9, 10] (fun _ x => items_row (by first | rfl | omega | (simp only [ek_]; omega) | (simp; done) | (simp; omega)) (by first | rfl | omega | (simp only [ek_]; omega) | (simp; done) | (simp; omega)) (fun _ => by first | rfl | omega | (simp only [ek_]; omega) | (simp; done) | (simp; omega)) ((dt0 rfl (Nat.le_refl _)).trans ((pin_step g1 hx11))) x)
   exact ⟨(H115, (i + 1), (rowC n109 0 ((pin (m.take (i : Int).toNat)) ++ [(x11.1, (true, ()))]).length 0 (((pin (m.take (i : Int).toNat)) ++ [(x11.1, (true, ()))]).length) false), (kz ++ [x11.1])), by kernel_rfl, (⟨(On.pick [0, 5, 6, 7, 8, 9, 1, 2, 11] [3, 4, 10] (by kernel_rfl) hs117), by omega, by omega, pids_step g1 hx11 g3, by simp only [eo_, eh_]; omega, nd_snoc g5 c15, out_snoc g6 (by omega), out_snoc g7 (by omega), out_snoc g8 (by omega)⟩), (by show (_ : Nat) < _; simp only []; omega)⟩
  have hc101z := hc101 rfl
  have hlfz118 : ([(x11.1, (true, ()))].length : Int) = 1 := by { first | rfl | omega | (simp only [ek_]; omega) | (simp; done) | (simp; omega) }
  have hlfz120 : (((pin (m.take (i : Int).toNat)) ++ [(x11.1, (true, ()))]).length : Int) = (((pin (m.take (i : Int).toNat)).length : Int) + 1) := by { first | rfl | omega | (simp only [ek_]; omega) | (simp; done) | (simp; omega) }
  refine rHz [(0, yp c), (1, xi kk), (7, .y (.one (rowC k95 (d96 + o98) ((pin (m.take (i : Int).toNat)) ++ [(x11.1, (true, ()))]).length 0 (((pin (m.take (i : Int).toNat)) ++ [(x11.1, (true, ()))]).length) false))), (8, .y (.one (.mp n3))), (20, .y (.one (rowC k d L.length o m.length cp))), (21, xi (m.length : Int)), (22, xi i)] (On.put (rowO EN true (d96 + o98) ((pin (m.take (i : Int).toNat)) ++ [(x11.1, (true, ()))])) hs93 10 rfl) (zA 2 (qL 38 0 (.agg [vi x11.1.1, vi x11.1.2.1]) (On.at hs93 3 rfl)) (zL 5 (Jd1 (H := H90) (s := EN) (t := 23) (u := 23) (el := 40) (by_ := 24) (z := [vi 0, vi 0, vb false]) (ty := 0) (pu := true) (puy := true) (id := k95) (d := d96) (o := o98) (n := ((pin (m.take (i : Int).toNat)).length)) (m := 1) (l := L97) (lm := ([(x11.1, (true, ()))])) (y := .sl false false true [vi x11.1.1, vi x11.1.2.1, vb true] 1) (d' := (d96 + o98)) (l' := ((pin (m.take (i : Int).toNat)) ++ [(x11.1, (true, ()))])) (n' := ((pin (m.take (i : Int).toNat)) ++ [(x11.1, (true, ()))]).length) (On.at hs93 10 rfl) (slCells_slO (H := H90) (s := EN) (b := false) (nil := false) (capd := true) (l := [(x11.1, (true, ()))]) (n := 1) (by first | rfl | omega | (simp only [ek_]; omega) | (simp; done) | (simp; omega))) (by kernel_rfl) (by kernel_rfl) (by kernel_rfl) (by kernel_rfl) (by kernel_rfl) (by kernel_rfl) (by kernel_rfl) (by first | rfl | omega | (simp only [ek_]; omega) | (simp; done) | (simp; omega)) (by first | rfl | omega | (simp only [ek_]; omega) | (simp; done) | (simp; omega)) (by first | rfl | omega | (simp only [ek_]; omega) | (simp; done) | (simp; omega)) (by omega) (by omega) (by omega) (congrArg (fun z => z ++ ([(x11.1, (true, ()))])) (show L97.drop o98 = (pin (m.take (i : Int).toNat)) from (List.take_of_length_le (by rw [ei_]; omega)).symm.trans (hl102))) (by first | (simp only [ej_]; done) | (simp only [ej_]; first | omega | (simp; done) | (simp; omega)))))) fun H123 hs124 => ?_
  refine wK ?_
  refine rRz [(0, yp c), (1, xi kk), (7, .y (.one (rowC k95 (d96 + o98) ((pin (m.take (i : Int).toNat)) ++ [(x11.1, (true, ()))]).length 0 (((pin (m.take (i : Int).toNat)) ++ [(x11.1, (true, ()))]).length) false))), (8, .y (.one (.mp n3))), (20, .y (.one (rowC k d L.length o m.length cp))), (21, xi (m.length : Int)), (22, xi (i + 1))] H123 (zL 0 (qoAdd H123 i 1 (i + 1))) ?_
  have hs125 : On [R, pts k (rowO EN true d L), pts n3 (cntO PN (ones (kz ++ [x11.1]))), pts n12 (.obj [vi x11.1.1, vi x11.1.2.1, vb x11.2.1]), pts n24 (.obj [vi x11.1.1, vi x11.1.2.1]), pts c (.obj (cO ks S hand q0 q1 q2)), kP ks S, gP q0 l0, gP q1 l1, gP q2 l2, itemsP EN (rowC k95 (d96 + o98) ((pin (m.take (i : Int).toNat)) ++ [(x11.1, (true, ()))]).length 0 (((pin (m.take (i : Int).toNat)) ++ [(x11.1, (true, ()))]).length) false) (pin (m.take ((i + 1) : Int).toNat))] H123 := sH hs124 [10] [0, 1, 2, 3, 4, 5, 6, 7, 8, 9] (fun _ x => items_row (by first | rfl | omega | (simp only [ek_]; omega) | (simp; done) | (simp; omega)) (by first | rfl | omega | (simp only [ek_]; omega) | (simp; done) | (simp; omega)) (fun _ => by first | rfl | omega | (simp only [ek_]; omega) | (simp; done) | (simp; omega)) ((dt0 rfl (Nat.le_refl _)).trans ((pin_step g1 hx11))) x)
  exact ⟨(H123, (i + 1), (rowC k95 (d96 + o98) ((pin (m.take (i : Int).toNat)) ++ [(x11.1, (true, ()))]).length 0 (((pin (m.take (i : Int).toNat)) ++ [(x11.1, (true, ()))]).length) false), (kz ++ [x11.1])), by kernel_rfl, (⟨(On.pick [0, 5, 6, 7, 8, 9, 1, 2, 10] [3, 4] (by kernel_rfl) hs125), by omega, by omega, pids_step g1 hx11 g3, by simp only [eo_, eh_]; omega, nd_snoc g5 c15, out_snoc g6 (by omega), out_snoc g7 (by omega), out_snoc g8 (by omega)⟩), (by show (_ : Nat) < _; simp only []; omega)⟩
 refine rSz [(0, yp c), (1, xi kk), (7, .y (.one (cv))), (8, .y (.one (.mp n3))), (20, .y (.one (rowC k d L.length o m.length cp))), (21, xi (m.length : Int)), (22, xi i), (23, xb false)] H8 (zL 0 (qlssF H8 i (m.length : Int))) ?_
 refine wS ?_
 refine wFa ?_
 refine wX ?_
 refine Eq.mpr (if_pos rfl) ?_
 rcases (show kk = 0 ∨ kk = 1 ∨ kk = 2 from by omega) with rfl | rfl | rfl
 ·
  obtain ⟨rfl, hl128, hs126⟩ | ⟨k129, d130, L131, o132, cd133, rfl, ho134, hc135, hl136, hs127⟩ := items_open hs9 8 rfl
  ·
   have hl128n : ((pin (m.take (i : Int).toNat)).length : Int) = 0 := by rw [hl128]; rfl
   have hlfz137 : ((l0 ++ ([] : List EN.T)).length : Int) = (l0.length : Int) := by { first | rfl | omega | (simp only [ek_]; omega) | (simp; done) | (simp; omega) }
   obtain ⟨_, H139, hr140, rfl, hs141⟩ := join_ok_s _ (H8 : HH) (On.call [3] [0, 1, 2, 4, 5, 6, 7] (by kernel_rfl) hs126) (q := q0) (room := 64) (l := l0) (b := false) (nil := true) (cp := true) (m := ([] : List EN.T)) (by first | rfl | omega | (simp only [ek_]; omega) | (simp; done) | (simp; omega))
   have hs141 : On [R, pts c (.obj (cO ks S hand q0 q1 q2)), kP ks S, gP q1 l1, gP q2 l2, pts k (rowO EN true d L), pts n3 (cntO PN (ones kz)), gP q0 (l0 ++ ([] : List EN.T))] H139 := On.flat hs141
   refine rGz [(6, xi 0)] hs141 (zA 6 (qL 78 2 (.one (.ptr q0 0)) (On.at hs126 1 rfl)) (zL 8 (qC2 hr140))) fun H142 hs143 => ?_
   refine wE ?_
   refine ⟨Or.inr rfl, [.one (vi 0)], (by kernel_rfl), ?_⟩
   exact .inr (.inr (.inl (⟨(⟨by rw [← ea_ (pids m), ← pids_end (by omega) g3]; exact g5, by rw [← ea_ (pids m), ← pids_end (by omega) g3]; exact g6, by rw [← ea_ (pids m), ← pids_end (by omega) g3]; exact g7, by rw [← ea_ (pids m), ← pids_end (by omega) g3]; exact g8⟩ : JoinOk m l0 l1 l2), rfl, by omega, rfl, (On.pick [0, 1, 2, 7, 3, 4, 5] [6] (by kernel_rfl) (On.mono (A' := gP q0 (l0 ++ pin m)) 7 rfl (fun _ x => by have e : (l0 ++ ([] : List EN.T)) = l0 ++ pin m := congrArg (fun z => l0 ++ z) ((hl128).symm.trans (pin_end (q := m) (i := i) (by omega))); rw [← e]; exact x) hs143))⟩)))
  by_cases c144 : (64 : Int) < ((l0.length : Int) + ((pin (m.take (i : Int).toNat)).length : Int))
  ·
   obtain ⟨_, H145, hr146, rfl, hs147⟩ := join_full_r _ (H8 : HH) (On.call [3, 8] [0, 1, 2, 4, 5, 6, 7] (by kernel_rfl) hs127) (q := q0) (room := 64) (l := l0) (k := k129) (d := d130) (o := o132) (cp := cd133) (L := L131) (m := (pin (m.take (i : Int).toNat))) (by first | rfl | omega | (simp only [ek_]; omega) | (simp; done) | (simp; omega)) (hl136) (by first | rfl | omega | (simp only [ek_]; omega) | (simp; done) | (simp; omega))
   have hs147 : On [R, pts c (.obj (cO ks S hand q0 q1 q2)), kP ks S, gP q1 l1, gP q2 l2, pts k (rowO EN true d L), pts n3 (cntO PN (ones kz)), gP q0 l0, pts k129 (rowO EN true d130 L131)] H145 := On.flat hs147
   refine rGz [(6, xi 2)] hs147 (zA 6 (qL 78 2 (.one (.ptr q0 0)) (On.at hs127 1 rfl)) (zL 8 (qC2 hr146))) fun H148 hs149 => ?_
   refine wE ?_
   refine ⟨Or.inr rfl, [.one (vi 2)], (by kernel_rfl), ?_⟩
   exact .inr (.inl (⟨(⟨by rw [← ea_ (pids m), ← pids_end (by omega) g3]; exact g5, by rw [← ea_ (pids m), ← pids_end (by omega) g3]; exact g6, by rw [← ea_ (pids m), ← pids_end (by omega) g3]; exact g7, by rw [← ea_ (pids m), ← pids_end (by omega) g3]; exact g8⟩ : JoinOk m l0 l1 l2), rfl, by omega, rfl, (On.pick [0, 1, 2, 7, 3, 4, 5] [6, 8] (by kernel_rfl) hs149)⟩))
  have hlfz150 : ((l0 ++ (pin (m.take (i : Int).toNat))).length : Int) = ((l0.length : Int) + ((pin (m.take (i : Int).toNat)).length : Int)) := by { first | rfl | omega | (simp only [ek_]; omega) | (simp; done) | (simp; omega) }
  obtain ⟨_, H152, hr153, rfl, hs154⟩ := join_ok_r _ (H8 : HH) (On.call [3, 8] [0, 1, 2, 4, 5, 6, 7] (by kernel_rfl) hs127) (q := q0) (room := 64) (l := l0) (k := k129) (d := d130) (o := o132) (cp := cd133) (L := L131) (m := (pin (m.take (i : Int).toNat))) (by first | rfl | omega | (simp only [ek_]; omega) | (simp; done) | (simp; omega)) (hl136) (by first | rfl | omega | (simp only [ek_]; omega) | (simp; done) | (simp; omega))
  have hs154 : On [R, pts c (.obj (cO ks S hand q0 q1 q2)), kP ks S, gP q1 l1, gP q2 l2, pts k (rowO EN true d L), pts n3 (cntO PN (ones kz)), gP q0 (l0 ++ (pin (m.take (i : Int).toNat))), pts k129 (rowO EN true d130 L131)] H152 := On.flat hs154
  refine rGz [(6, xi 0)] hs154 (zA 6 (qL 78 2 (.one (.ptr q0 0)) (On.at hs127 1 rfl)) (zL 8 (qC2 hr153))) fun H155 hs156 => ?_
  refine wE ?_
  refine ⟨Or.inr rfl, [.one (vi 0)], (by kernel_rfl), ?_⟩
  exact .inr (.inr (.inl (⟨(⟨by rw [← ea_ (pids m), ← pids_end (by omega) g3]; exact g5, by rw [← ea_ (pids m), ← pids_end (by omega) g3]; exact g6, by rw [← ea_ (pids m), ← pids_end (by omega) g3]; exact g7, by rw [← ea_ (pids m), ← pids_end (by omega) g3]; exact g8⟩ : JoinOk m l0 l1 l2), rfl, by omega, rfl, (On.pick [0, 1, 2, 7, 3, 4, 5] [6, 8] (by kernel_rfl) (On.mono (A' := gP q0 (l0 ++ pin m)) 7 rfl (fun _ x => by have e : (l0 ++ (pin (m.take (i : Int).toNat))) = l0 ++ pin m := congrArg (fun z => l0 ++ z) (pin_end (q := m) (i := i) (by omega)); rw [← e]; exact x) hs156))⟩)))
 ·
  obtain ⟨rfl, hl159, hs157⟩ | ⟨k160, d161, L162, o163, cd164, rfl, ho165, hc166, hl167, hs158⟩ := items_open hs9 8 rfl
  ·
   have hl159n : ((pin (m.take (i : Int).toNat)).length : Int) = 0 := by rw [hl159]; rfl
   have hlfz168 : ((l1 ++ ([] : List EN.T)).length : Int) = (l1.length : Int) := by { first | rfl | omega | (simp only [ek_]; omega) | (simp; done) | (simp; omega) }
   obtain ⟨_, H170, hr171, rfl, hs172⟩ := join_ok_s _ (H8 : HH) (On.call [4] [0, 1, 2, 3, 5, 6, 7] (by kernel_rfl) hs157) (q := q1) (room := 64) (l := l1) (b := false) (nil := true) (cp := true) (m := ([] : List EN.T)) (by first | rfl | omega | (simp only [ek_]; omega) | (simp; done) | (simp; omega))
   have hs172 : On [R, pts c (.obj (cO ks S hand q0 q1 q2)), kP ks S, gP q0 l0, gP q2 l2, pts k (rowO EN true d L), pts n3 (cntO PN (ones kz)), gP q1 (l1 ++ ([] : List EN.T))] H170 := On.flat hs172
   refine rGz [(6, xi 0)] hs172 (zA 6 (qL 78 3 (.one (.ptr q1 0)) (On.at hs157 1 rfl)) (zL 8 (qC2 hr171))) fun H173 hs174 => ?_
   refine wE ?_
   refine ⟨Or.inr rfl, [.one (vi 0)], (by kernel_rfl), ?_⟩
   exact .inr (.inr (.inr (.inr (.inl (⟨(⟨by rw [← ea_ (pids m), ← pids_end (by omega) g3]; exact g5, by rw [← ea_ (pids m), ← pids_end (by omega) g3]; exact g6, by rw [← ea_ (pids m), ← pids_end (by omega) g3]; exact g7, by rw [← ea_ (pids m), ← pids_end (by omega) g3]; exact g8⟩ : JoinOk m l0 l1 l2), rfl, by omega, rfl, (On.pick [0, 1, 2, 3, 7, 4, 5] [6] (by kernel_rfl) (On.mono (A' := gP q1 (l1 ++ pin m)) 7 rfl (fun _ x => by have e : (l1 ++ ([] : List EN.T)) = l1 ++ pin m := congrArg (fun z => l1 ++ z) ((hl159).symm.trans (pin_end (q := m) (i := i) (by omega))); rw [← e]; exact x) hs174))⟩)))))
  by_cases c175 : (64 : Int) < ((l1.length : Int) + ((pin (m.take (i : Int).toNat)).length : Int))
  ·
   obtain ⟨_, H176, hr177, rfl, hs178⟩ := join_full_r _ (H8 : HH) (On.call [4, 8] [0, 1, 2, 3, 5, 6, 7] (by kernel_rfl) hs158) (q := q1) (room := 64) (l := l1) (k := k160) (d := d161) (o := o163) (cp := cd164) (L := L162) (m := (pin (m.take (i : Int).toNat))) (by first | rfl | omega | (simp only [ek_]; omega) | (simp; done) | (simp; omega)) (hl167) (by first | rfl | omega | (simp only [ek_]; omega) | (simp; done) | (simp; omega))
   have hs178 : On [R, pts c (.obj (cO ks S hand q0 q1 q2)), kP ks S, gP q0 l0, gP q2 l2, pts k (rowO EN true d L), pts n3 (cntO PN (ones kz)), gP q1 l1, pts k160 (rowO EN true d161 L162)] H176 := On.flat hs178
   refine rGz [(6, xi 2)] hs178 (zA 6 (qL 78 3 (.one (.ptr q1 0)) (On.at hs158 1 rfl)) (zL 8 (qC2 hr177))) fun H179 hs180 => ?_
   refine wE ?_
   refine ⟨Or.inr rfl, [.one (vi 2)], (by kernel_rfl), ?_⟩
   exact .inr (.inr (.inr (.inl (⟨(⟨by rw [← ea_ (pids m), ← pids_end (by omega) g3]; exact g5, by rw [← ea_ (pids m), ← pids_end (by omega) g3]; exact g6, by rw [← ea_ (pids m), ← pids_end (by omega) g3]; exact g7, by rw [← ea_ (pids m), ← pids_end (by omega) g3]; exact g8⟩ : JoinOk m l0 l1 l2), rfl, by omega, rfl, (On.pick [0, 1, 2, 3, 7, 4, 5] [6, 8] (by kernel_rfl) hs180)⟩))))
  have hlfz181 : ((l1 ++ (pin (m.take (i : Int).toNat))).length : Int) = ((l1.length : Int) + ((pin (m.take (i : Int).toNat)).length : Int)) := by { first | rfl | omega | (simp only [ek_]; omega) | (simp; done) | (simp; omega) }
  obtain ⟨_, H183, hr184, rfl, hs185⟩ := join_ok_r _ (H8 : HH) (On.call [4, 8] [0, 1, 2, 3, 5, 6, 7] (by kernel_rfl) hs158) (q := q1) (room := 64) (l := l1) (k := k160) (d := d161) (o := o163) (cp := cd164) (L := L162) (m := (pin (m.take (i : Int).toNat))) (by first | rfl | omega | (simp only [ek_]; omega) | (simp; done) | (simp; omega)) (hl167) (by first | rfl | omega | (simp only [ek_]; omega) | (simp; done) | (simp; omega))
  have hs185 : On [R, pts c (.obj (cO ks S hand q0 q1 q2)), kP ks S, gP q0 l0, gP q2 l2, pts k (rowO EN true d L), pts n3 (cntO PN (ones kz)), gP q1 (l1 ++ (pin (m.take (i : Int).toNat))), pts k160 (rowO EN true d161 L162)] H183 := On.flat hs185
  refine rGz [(6, xi 0)] hs185 (zA 6 (qL 78 3 (.one (.ptr q1 0)) (On.at hs158 1 rfl)) (zL 8 (qC2 hr184))) fun H186 hs187 => ?_
  refine wE ?_
  refine ⟨Or.inr rfl, [.one (vi 0)], (by kernel_rfl), ?_⟩
  exact .inr (.inr (.inr (.inr (.inl (⟨(⟨by rw [← ea_ (pids m), ← pids_end (by omega) g3]; exact g5, by rw [← ea_ (pids m), ← pids_end (by omega) g3]; exact g6, by rw [← ea_ (pids m), ← pids_end (by omega) g3]; exact g7, by rw [← ea_ (pids m), ← pids_end (by omega) g3]; exact g8⟩ : JoinOk m l0 l1 l2), rfl, by omega, rfl, (On.pick [0, 1, 2, 3, 7, 4, 5] [6, 8] (by kernel_rfl) (On.mono (A' := gP q1 (l1 ++ pin m)) 7 rfl (fun _ x => by have e : (l1 ++ (pin (m.take (i : Int).toNat))) = l1 ++ pin m := congrArg (fun z => l1 ++ z) (pin_end (q := m) (i := i) (by omega)); rw [← e]; exact x) hs187))⟩)))))
 obtain ⟨rfl, hl190, hs188⟩ | ⟨k191, d192, L193, o194, cd195, rfl, ho196, hc197, hl198, hs189⟩ := items_open hs9 8 rfl
 ·
  have hl190n : ((pin (m.take (i : Int).toNat)).length : Int) = 0 := by rw [hl190]; rfl
  have hlfz199 : ((l2 ++ ([] : List EN.T)).length : Int) = (l2.length : Int) := by { first | rfl | omega | (simp only [ek_]; omega) | (simp; done) | (simp; omega) }
  obtain ⟨_, H201, hr202, rfl, hs203⟩ := join_ok_s _ (H8 : HH) (On.call [5] [0, 1, 2, 3, 4, 6, 7] (by kernel_rfl) hs188) (q := q2) (room := 64) (l := l2) (b := false) (nil := true) (cp := true) (m := ([] : List EN.T)) (by first | rfl | omega | (simp only [ek_]; omega) | (simp; done) | (simp; omega))
  have hs203 : On [R, pts c (.obj (cO ks S hand q0 q1 q2)), kP ks S, gP q0 l0, gP q1 l1, pts k (rowO EN true d L), pts n3 (cntO PN (ones kz)), gP q2 (l2 ++ ([] : List EN.T))] H201 := On.flat hs203
  refine rGz [(6, xi 0)] hs203 (zA 6 (qL 78 4 (.one (.ptr q2 0)) (On.at hs188 1 rfl)) (zL 8 (qC2 hr202))) fun H204 hs205 => ?_
  refine wE ?_
  refine ⟨Or.inr rfl, [.one (vi 0)], (by kernel_rfl), ?_⟩
  exact .inr (.inr (.inr (.inr (.inr (.inr (⟨(⟨by rw [← ea_ (pids m), ← pids_end (by omega) g3]; exact g5, by rw [← ea_ (pids m), ← pids_end (by omega) g3]; exact g6, by rw [← ea_ (pids m), ← pids_end (by omega) g3]; exact g7, by rw [← ea_ (pids m), ← pids_end (by omega) g3]; exact g8⟩ : JoinOk m l0 l1 l2), rfl, by omega, rfl, (On.pick [0, 1, 2, 3, 4, 7, 5] [6] (by kernel_rfl) (On.mono (A' := gP q2 (l2 ++ pin m)) 7 rfl (fun _ x => by have e : (l2 ++ ([] : List EN.T)) = l2 ++ pin m := congrArg (fun z => l2 ++ z) ((hl190).symm.trans (pin_end (q := m) (i := i) (by omega))); rw [← e]; exact x) hs205))⟩))))))
 by_cases c206 : (64 : Int) < ((l2.length : Int) + ((pin (m.take (i : Int).toNat)).length : Int))
 ·
  obtain ⟨_, H207, hr208, rfl, hs209⟩ := join_full_r _ (H8 : HH) (On.call [5, 8] [0, 1, 2, 3, 4, 6, 7] (by kernel_rfl) hs189) (q := q2) (room := 64) (l := l2) (k := k191) (d := d192) (o := o194) (cp := cd195) (L := L193) (m := (pin (m.take (i : Int).toNat))) (by first | rfl | omega | (simp only [ek_]; omega) | (simp; done) | (simp; omega)) (hl198) (by first | rfl | omega | (simp only [ek_]; omega) | (simp; done) | (simp; omega))
  have hs209 : On [R, pts c (.obj (cO ks S hand q0 q1 q2)), kP ks S, gP q0 l0, gP q1 l1, pts k (rowO EN true d L), pts n3 (cntO PN (ones kz)), gP q2 l2, pts k191 (rowO EN true d192 L193)] H207 := On.flat hs209
  refine rGz [(6, xi 2)] hs209 (zA 6 (qL 78 4 (.one (.ptr q2 0)) (On.at hs189 1 rfl)) (zL 8 (qC2 hr208))) fun H210 hs211 => ?_
  refine wE ?_
  refine ⟨Or.inr rfl, [.one (vi 2)], (by kernel_rfl), ?_⟩
  exact .inr (.inr (.inr (.inr (.inr (.inl (⟨(⟨by rw [← ea_ (pids m), ← pids_end (by omega) g3]; exact g5, by rw [← ea_ (pids m), ← pids_end (by omega) g3]; exact g6, by rw [← ea_ (pids m), ← pids_end (by omega) g3]; exact g7, by rw [← ea_ (pids m), ← pids_end (by omega) g3]; exact g8⟩ : JoinOk m l0 l1 l2), rfl, by omega, rfl, (On.pick [0, 1, 2, 3, 4, 7, 5] [6, 8] (by kernel_rfl) hs211)⟩))))))
 have hlfz212 : ((l2 ++ (pin (m.take (i : Int).toNat))).length : Int) = ((l2.length : Int) + ((pin (m.take (i : Int).toNat)).length : Int)) := by { first | rfl | omega | (simp only [ek_]; omega) | (simp; done) | (simp; omega) }
 obtain ⟨_, H214, hr215, rfl, hs216⟩ := join_ok_r _ (H8 : HH) (On.call [5, 8] [0, 1, 2, 3, 4, 6, 7] (by kernel_rfl) hs189) (q := q2) (room := 64) (l := l2) (k := k191) (d := d192) (o := o194) (cp := cd195) (L := L193) (m := (pin (m.take (i : Int).toNat))) (by first | rfl | omega | (simp only [ek_]; omega) | (simp; done) | (simp; omega)) (hl198) (by first | rfl | omega | (simp only [ek_]; omega) | (simp; done) | (simp; omega))
 have hs216 : On [R, pts c (.obj (cO ks S hand q0 q1 q2)), kP ks S, gP q0 l0, gP q1 l1, pts k (rowO EN true d L), pts n3 (cntO PN (ones kz)), gP q2 (l2 ++ (pin (m.take (i : Int).toNat))), pts k191 (rowO EN true d192 L193)] H214 := On.flat hs216
 refine rGz [(6, xi 0)] hs216 (zA 6 (qL 78 4 (.one (.ptr q2 0)) (On.at hs189 1 rfl)) (zL 8 (qC2 hr215))) fun H217 hs218 => ?_
 refine wE ?_
 refine ⟨Or.inr rfl, [.one (vi 0)], (by kernel_rfl), ?_⟩
 exact .inr (.inr (.inr (.inr (.inr (.inr (⟨(⟨by rw [← ea_ (pids m), ← pids_end (by omega) g3]; exact g5, by rw [← ea_ (pids m), ← pids_end (by omega) g3]; exact g6, by rw [← ea_ (pids m), ← pids_end (by omega) g3]; exact g7, by rw [← ea_ (pids m), ← pids_end (by omega) g3]; exact g8⟩ : JoinOk m l0 l1 l2), rfl, by omega, rfl, (On.pick [0, 1, 2, 3, 4, 7, 5] [6, 8] (by kernel_rfl) (On.mono (A' := gP q2 (l2 ++ pin m)) 7 rfl (fun _ x => by have e : (l2 ++ (pin (m.take (i : Int).toNat))) = l2 ++ pin m := congrArg (fun z => l2 ++ z) (pin_end (q := m) (i := i) (by omega)); rw [← e]; exact x) hs218))⟩))))))
end Go.Proofs.Ytjdnhbnpdbpgbaa
