/- Lemmas. -/
import Derived.Test.YtoidoeappihplaaR19SD
namespace Go.Proofs.Ytoidoeappihplaa
open Go.Lg
set_option linter.unusedVariables false
set_option maxRecDepth 100000
set_option maxHeartbeats 8000000
set_option linter.unusedSimpArgs false
abbrev pin (l : List EN.T) : List EN.T := l.map fun x => (x.1, (true, ()))
theorem nd_at {A B : List PN.T} {q : List EN.T} {ks : List PN.T} {i : Int} {x : EN.T} (h : (A ++ (pids q ++ B)).Nodup) (h0 : 0 ≤ i) (hx : q[i.toNat]? = some x) (hk : ks = A ++ pids (q.take i.toNat)) : memB PN x.1 ks = false := by
  subst hk
  rw [Bool.eq_false_iff]
  intro hm
  rw [memB_iff rfl] at hm
  rw [List.nodup_append] at h
  obtain ⟨_, h2, h3⟩ := h
  rcases List.mem_append.1 hm with hm | hm
  · exact h3 _ hm _ (List.mem_append_left _ (List.mem_map.2 ⟨x, List.mem_of_getElem? hx, rfl⟩)) rfl
  · rw [List.nodup_append] at h2
    obtain ⟨y, hy, he⟩ := List.mem_map.1 hm
    obtain ⟨j, hj, rfl⟩ := List.mem_take_iff_getElem.1 hy
    obtain ⟨hi, rfl⟩ := List.getElem?_eq_some_iff.1 hx
    have := List.pairwise_iff_getElem.1 h2.1 j i.toNat (by simp; omega) (by simpa using hi) (by omega)
    simp only [List.getElem_map] at this
    exact this he
theorem pids_step {A : List PN.T} {q : List EN.T} {ks : List PN.T} {i : Int} {x : EN.T} (h0 : 0 ≤ i) (hx : q[i.toNat]? = some x) (hk : ks = A ++ pids (q.take i.toNat)) : ks ++ [x.1] = A ++ pids (q.take (i + 1).toNat) := by
  subst hk
  rw [show (i + 1).toNat = i.toNat + 1 by omega, List.take_add_one, hx]
  simp
theorem pids_end {A : List PN.T} {q : List EN.T} {ks : List PN.T} {i : Int} (hi : (q.length : Int) ≤ i) (hk : ks = A ++ pids (q.take i.toNat)) : ks = A ++ pids q := by
  rw [hk, List.take_of_length_le (by omega)]
theorem nd_snoc {ks : List PN.T} {x : PN.T} (h : ks.Nodup) (hm : memB PN x ks = false) : (ks ++ [x]).Nodup := by
  rw [List.nodup_append]
  refine ⟨h, by simp, fun a ha b hb => ?_⟩
  simp at hb
  subst hb
  rintro rfl
  exact not_memB rfl hm ha
theorem pin_step {q : List EN.T} {i : Int} {x : EN.T} (h0 : 0 ≤ i) (hx : q[i.toNat]? = some x) : pin (q.take i.toNat) ++ [(x.1, (true, ()))] = pin (q.take (i + 1).toNat) := by
  rw [show (i + 1).toNat = i.toNat + 1 by omega, List.take_add_one, hx]
  simp
theorem pin_end {q : List EN.T} {i : Int} (hi : (q.length : Int) ≤ i) : pin (q.take i.toNat) = pin q := by rw [List.take_of_length_le (by omega)]
def JoinOk (m l0 l1 l2 : List EN.T) : Prop := (pids m).Nodup ∧ (∀ p ∈ pids m, p ∉ pids l0) ∧ (∀ p ∈ pids m, p ∉ pids l1) ∧ (∀ p ∈ pids m, p ∉ pids l2)
def JoinBad (m l0 l1 l2 : List EN.T) : Prop := ¬ JoinOk m l0 l1 l2
theorem not_in {x : EN.T} {q : List EN.T} {i : Int} {l : List EN.T} (h : ∀ p ∈ pids q, p ∉ pids l) (hx : q[i.toNat]? = some x) : posI x.1 l < 0 := posI_neg.2 (h _ (List.mem_map.2 ⟨x, List.mem_of_getElem? hx, rfl⟩))
theorem join_e (R : HP) (H : HH) (c ks q0 q1 q2 : Nat) (S : List Int) (hand : Int) (l0 l1 l2 : List EN.T) (k d o : Nat) (cp : Bool) (L m : List EN.T) (kk : Int) (hs : On [R, pts c (.obj [rff ks S, vi hand, .ptr q0 0, .ptr q1 0, .ptr q2 0]), pts ks (rowO NI true 0 S), ringP EN q0 64 l0, ringP EN q1 64 l1, ringP EN q2 64 l2, pts k (rowO EN true d L)] H) (hS : 3 ≤ (S.length : Int)) (hT : (S.length : Int) ≤ 64) (b0 : (l0.length : Int) ≤ 64) (b1 : (l1.length : Int) ≤ 64) (b2 : (l2.length : Int) ≤ 64) (ho : o + m.length ≤ L.length) (hl : (L.drop o).take m.length = m) (hm : (m.length : Int) ≤ 65536) (hk0 : 0 ≤ kk) (hk1 : kk < 3) (hnd : (pids m).Nodup) (e0 : l0.length = 0) (e1 : l1.length = 0) (e2 : l2.length = 0) (hm64 : (m.length : Int) ≤ 64) : ∃ rs H', Runs pg an 28 [.one (.ptr c 0), .one (vi kk), .one (rowC k d L.length o m.length cp)] H rs H' ∧ ((kk = 0 ∧ rs = [.one (vi 0)] ∧ On [R, pts c (.obj [rff ks S, vi hand, .ptr q0 0, .ptr q1 0, .ptr q2 0]), pts ks (rowO NI true 0 S), ringP EN q0 64 (l0 ++ pin m), ringP EN q1 64 l1, ringP EN q2 64 l2, pts k (rowO EN true d L)] H') ∨ (kk = 1 ∧ rs = [.one (vi 0)] ∧ On [R, pts c (.obj [rff ks S, vi hand, .ptr q0 0, .ptr q1 0, .ptr q2 0]), pts ks (rowO NI true 0 S), ringP EN q0 64 l0, ringP EN q1 64 (l1 ++ pin m), ringP EN q2 64 l2, pts k (rowO EN true d L)] H') ∨ (kk = 2 ∧ rs = [.one (vi 0)] ∧ On [R, pts c (.obj [rff ks S, vi hand, .ptr q0 0, .ptr q1 0, .ptr q2 0]), pts ks (rowO NI true 0 S), ringP EN q0 64 l0, ringP EN q1 64 l1, ringP EN q2 64 (l2 ++ pin m), pts k (rowO EN true d L)] H')) := by
 have hd0 : ∀ p ∈ pids m, p ∉ pids l0 := by rw [List.eq_nil_of_length_eq_zero e0]; intro p _ h; cases h
 have hd1 : ∀ p ∈ pids m, p ∉ pids l1 := by rw [List.eq_nil_of_length_eq_zero e1]; intro p _ h; cases h
 have hd2 : ∀ p ∈ pids m, p ∉ pids l2 := by rw [List.eq_nil_of_length_eq_zero e2]; intro p _ h; cases h
 refine Runs.of (fn := Try.f28) Try.func28 rfl (by kernel_rfl) [(0, yp c), (1, xi kk), (2, .y (.one (rowC k d L.length o m.length cp)))] (by kernel_rfl) ?_
 refine rS0 [(0, yp c), (1, xi kk), (2, .y (.one (rowC k d L.length o m.length cp)))] (by kernel_rfl) ?_
 refine wS ?_
 have hcall1 : Runs pg an 33 [.one (.ptr c 0)] H [.one (vb true)] H := by
  refine runs_of ?_
  refine Runs.of (fn := Try.f33) Try.func33 rfl (by kernel_rfl) [(0, yp c)] (by kernel_rfl) ?_
  refine rS0 [(0, yp c)] (by kernel_rfl) ?_
  refine rSq [(6, .y (.one (rff ks S)), H), (7, xi (S.length : Int), H), (8, xb true, H)] [(2, xb true)] H
    (cast (Jai (Ja (t := 36) (off := 0) (v := .one (rff ks S)) (On.at hs 1 rfl) (by kernel_rfl)) (Jai (Jm (H := H) (s := NI) (t := 36) (ty := 0) (pu := true) (capd := false) (id := ks) (d := 0) (o := 0) (n := S.length) (l := S) (e := (S.length : Int)) (On.at hs 2 rfl) (by kernel_rfl) (by first | rfl | omega | simp <;> omega)) (JZ (Jd (H := H) (t := 3) (u := 3) (a := (S.length : Int)) (b := 0) (by omega))))) (by kernel_rfl)) (by kernel_rfl) ?_
  refine wE ?_
  exact ⟨Or.inr rfl, [.one (vb true)], (by kernel_rfl), ⟨rfl, rfl⟩⟩
 have hcall2 : Runs pg an 34 [.one (vi kk)] H [.one (vb true)] H := by
  refine runs_of ?_
  refine Runs.of (fn := Try.f34) Try.func34 rfl (by kernel_rfl) [(0, xi kk)] (by kernel_rfl) ?_
  refine rS0 [(0, xi kk)] (by kernel_rfl) ?_
  refine rSq [(1, xb true, H), (4, xb true, H)] [(2, xb true)] H
    (cast (Jai (Jw (H := H) (t := 3) (u := 3) (a := kk) (b := 0) (by omega)) (JZ (Jh (H := H) (t := 3) (u := 3) (a := kk) (b := 3) (by omega)))) (by kernel_rfl)) (by kernel_rfl) ?_
  refine wE ?_
  exact ⟨Or.inr rfl, [.one (vb true)], (by kernel_rfl), ⟨rfl, rfl⟩⟩
 refine rSq [(1, xb true, H), (5, xb true, H)] [(0, yp c), (1, xi kk), (2, .y (.one (rowC k d L.length o m.length cp))), (18, xb false)] H
   (cast (Jai (Jb hcall1 (by kernel_rfl)) (JZ (Jb hcall2 (by kernel_rfl)))) (by kernel_rfl)) (by kernel_rfl) ?_
 refine wFk ?_
 refine rS0 [(0, yp c), (1, xi kk), (2, .y (.one (rowC k d L.length o m.length cp))), (7, .y (.one (nilC)))] (by kernel_rfl) ?_
 obtain ⟨n3, hn3⟩ : ∃ n, n = List.length (H : HH) := ⟨_, rfl⟩
 refine rSq [(0, .y (.one (.mp n3)), (H ++ [cntO PN (ones ([] : List PN.T))]))] [(0, yp c), (1, xi kk), (2, .y (.one (rowC k d L.length o m.length cp))), (7, .y (.one (nilC))), (8, .y (.one (.mp n3)))] (H ++ [cntO PN (ones ([] : List PN.T))])
   (cast (JZ (Jq1 (H := H) (s := PN) (t := 75) (ty := 0) (n := n3) hn3 (by kernel_rfl))) (by kernel_rfl)) (by kernel_rfl) ?_
 refine wG (On.new' hn3 (cntO PN (ones ([] : List PN.T))) hs) ?_
 intro H4 hs5
 refine wS ?_
 refine rSq [(1, xi (m.length : Int), H4)] [(0, yp c), (1, xi kk), (7, .y (.one (nilC))), (8, .y (.one (.mp n3))), (20, .y (.one (rowC k d L.length o m.length cp))), (21, xi (m.length : Int)), (22, xi 0)] H4
   (cast (JZ (Jm (H := H4) (s := EN) (t := 22) (ty := 0) (pu := true) (capd := cp) (id := k) (d := d) (o := o) (n := m.length) (l := L) (e := (m.length : Int)) (On.at hs5 6 rfl) (by kernel_rfl) (by first | rfl | omega | simp <;> omega))) (by kernel_rfl)) (by kernel_rfl) ?_
 refine wB ?_
 have hs6 : On [R, pts c (.obj [rff ks S, vi hand, .ptr q0 0, .ptr q1 0, .ptr q2 0]), pts ks (rowO NI true 0 S), ringP EN q0 64 l0, ringP EN q1 64 l1, ringP EN q2 64 l2, pts k (rowO EN true d L), pts n3 (cntO PN (ones ([] : List PN.T))), itemsP EN (nilC) (pin (m.take (0 : Int).toNat))] H4 := On.shut (cs := [R, pts c (.obj [rff ks S, vi hand, .ptr q0 0, .ptr q1 0, .ptr q2 0]), pts ks (rowO NI true 0 S), ringP EN q0 64 l0, ringP EN q1 64 l1, ringP EN q2 64 l2, pts k (rowO EN true d L), pts n3 (cntO PN (ones ([] : List PN.T)))]) [] [0, 1, 2, 3, 4, 5, 6, 7] (by kernel_rfl) (fun _ _ => by rw [show (pin (m.take (0 : Int).toNat)) = ([] : List EN.T) from by simp]; exact items_nil) hs5
 refine Wp.loop (T := HH × Int × C × List PN.T) (fun t => match t with | (H8, i, cv, kz) => (((m.length : Int) - i).toNat : Nat)) (fun t => match t with | (H8, i, cv, kz) => ([(0, yp c), (1, xi kk), (7, .y (.one (cv))), (8, .y (.one (.mp n3))), (20, .y (.one (rowC k d L.length o m.length cp))), (21, xi (m.length : Int)), (22, xi i)] : Env)) (fun t => match t with | (H8, i, cv, kz) => (H8 : HH))
   (fun t => match t with | (H8, i, cv, kz) => (On [R, pts c (.obj [rff ks S, vi hand, .ptr q0 0, .ptr q1 0, .ptr q2 0]), pts ks (rowO NI true 0 S), ringP EN q0 64 l0, ringP EN q1 64 l1, ringP EN q2 64 l2, pts k (rowO EN true d L), pts n3 (cntO PN (ones kz)), itemsP EN cv (pin (m.take (i : Int).toNat))] H8 ∧ (0 ≤ i) ∧ (i ≤ (m.length : Int)) ∧ (kz = [] ++ pids (m.take i.toNat)) ∧ (((pin (m.take (i : Int).toNat)).length : Int) = i) : Prop)) (H4, 0, (nilC), []) (by kernel_rfl) (⟨(On.pick [0, 1, 2, 3, 4, 5, 6, 7, 8] [] (by kernel_rfl) hs6), by omega, by omega, by simp, by simp⟩) ?_
 rintro ⟨H8, i, cv, kz⟩ ⟨hs9, g1, g2, g3, g4⟩
 show Wp _ _ _ _ [(0, yp c), (1, xi kk), (7, .y (.one (cv))), (8, .y (.one (.mp n3))), (20, .y (.one (rowC k d L.length o m.length cp))), (21, xi (m.length : Int)), (22, xi i)] H8 _
 by_cases c10 : (i : Int) < (m.length : Int)
 ·
  refine rSq [(0, xb true, H8)] [(0, yp c), (1, xi kk), (7, .y (.one (cv))), (8, .y (.one (.mp n3))), (20, .y (.one (rowC k d L.length o m.length cp))), (21, xi (m.length : Int)), (22, xi i), (23, xb true)] H8
    (cast (JZ (Jh (H := H8) (t := 3) (u := 3) (a := i) (b := (m.length : Int)) (by omega))) (by kernel_rfl)) (by kernel_rfl) ?_
  refine wS (wTk ?_)
  refine wS (wB ?_)
  obtain ⟨x11, hx11⟩ : ∃ x : EN.T, m[(i : Int).toNat]? = some x := get_of (by first | rfl | omega | simp <;> omega)
  have hm12 := nd_at (A := []) (B := []) (x := x11) (by simpa using hnd) g1 hx11 g3
  have hm13 := not_in hd0 hx11
  have hm14 := not_in hd1 hx11
  have hm15 := not_in hd2 hx11
  obtain ⟨n16, hn16⟩ : ∃ n, n = List.length (H8 : HH) := ⟨_, rfl⟩
  refine rSq [(0, .y (.one (raC k d L.length 3 ((((o : Int) + i) : Int).toNat) 0)), H8), (1, .y (.agg [vi x11.1.1, vi x11.1.2.1, vb x11.2.1]), H8), (2, yp n16, (H8 ++ [.obj [vi 0, vi 0, vb false]])), (3, .tup [], (sto (H8 ++ [.obj [vi 0, vi 0, vb false]]) n16 (.obj [vi x11.1.1, vi x11.1.2.1, vb x11.2.1])))] [(0, yp c), (1, xi kk), (7, .y (.one (cv))), (8, .y (.one (.mp n3))), (10, yp n16), (20, .y (.one (rowC k d L.length o m.length cp))), (21, xi (m.length : Int)), (22, xi i)] (sto (H8 ++ [.obj [vi 0, vi 0, vb false]]) n16 (.obj [vi x11.1.1, vi x11.1.2.1, vb x11.2.1]))
    (cast (Jai (Je1 (H := H8) (s := EN) (t := 22) (el := 35) (ty := 0) (pu := true) (capd := cp) (id := k) (d := d) (o := o) (n := m.length) (j := ((((o : Int) + i) : Int).toNat)) (l := L) (i := i) (On.at hs9 6 rfl) Try.underlying22 (by kernel_rfl) (by omega) (by first | rfl | omega | simp <;> omega) (by first | rfl | omega | simp <;> omega) (by first | rfl | omega | simp <;> omega)) (Jai (Jk1 (H := H8) (s := EN) (t := 35) (ty := 0) (pu := true) (id := k) (d := d) (j := ((((o : Int) + i) : Int).toNat)) (o := 0) (n := 3) (l := L) (x := x11) (v := .agg [vi x11.1.1, vi x11.1.2.1, vb x11.2.1]) (On.at hs9 6 rfl) (by kernel_rfl) (by kernel_rfl) (of_content (hl) hx11 (by first | rfl | omega | simp <;> omega)) (by kernel_rfl)) (Jai (Jg (H := H8) (t := 35) (ty := 0) (n := n16) (cs := [vi 0, vi 0, vb false]) hn16 (by kernel_rfl)) (JZ (Jc (t := 35) (off := 0) (v := .agg [vi x11.1.1, vi x11.1.2.1, vb x11.2.1]) (On.at (On.new' hn16 (.obj [vi 0, vi 0, vb false]) hs9) 9 rfl) (by kernel_rfl)))))) (by kernel_rfl)) (by kernel_rfl) ?_
  refine wG (On.put (.obj [vi x11.1.1, vi x11.1.2.1, vb x11.2.1]) (On.new' hn16 (.obj [vi 0, vi 0, vb false]) hs9) 9 rfl) ?_
  intro H17 hs18
  refine rSq [(2, .y (.agg [vi x11.1.1, vi x11.1.2.1]), H17), (3, xi 0, H17), (5, .tup [.one (vi 0), .one (vi ((ones kz).length : Int))], (sto H17 n3 (cntO PN (ones kz ++ [(x11.1, 0)])))), (7, .tup [], (sto (sto H17 n3 (cntO PN (ones kz ++ [(x11.1, 0)]))) n3 (cntO PN (ones (kz ++ [x11.1])))))] [(0, yp c), (1, xi kk), (7, .y (.one (cv))), (8, .y (.one (.mp n3))), (10, yp n16), (20, .y (.one (rowC k d L.length o m.length cp))), (21, xi (m.length : Int)), (22, xi i)] (sto (sto H17 n3 (cntO PN (ones kz ++ [(x11.1, 0)]))) n3 (cntO PN (ones (kz ++ [x11.1]))))
    (cast (Jai (Ja (t := 33) (off := 0) (v := .agg [vi x11.1.1, vi x11.1.2.1]) (On.at hs18 9 rfl) (by kernel_rfl)) (Jai (Jv (H := H17) (s := PN) (t := 75) (ty := 0) (id := n3) (x := x11.1) (l := ones kz) (v := 0) (On.at hs18 7 rfl) there_ok (got_none (CntOK.flat there_ok) hm12)) (Jai (Jf1 (H := H17) (s := PN) (t := 75) (ty := 0) (id := n3) (x := x11.1) (l := ones kz) (On.at hs18 7 rfl) there_ok (seek_out (CntOK.flat there_ok) hm12)) (JZ (Jg1 (H := (sto H17 n3 (cntO PN (ones kz ++ [(x11.1, 0)])))) (s := PN) (t := 75) (ty := 0) (id := n3) (x := x11.1) (l := kz) (b := ((ones kz).length : Int)) (On.at (On.put (cntO PN (ones kz ++ [(x11.1, 0)])) hs18 7 rfl) 7 rfl) rfl))))) (by kernel_rfl)) (by kernel_rfl) ?_
  refine wG (On.put (cntO PN (ones (kz ++ [x11.1]))) (On.put (cntO PN (ones kz ++ [(x11.1, 0)])) hs18 7 rfl) 7 rfl) ?_
  intro H19 hs20
  refine wS ?_
  obtain ⟨n22, hn22⟩ : ∃ n, n = List.length (H19 : HH) := ⟨_, rfl⟩
  have hz24 := posI_bd x11.1 l0
  have hz29 := posI_bd x11.1 l1
  have hz34 := posI_bd x11.1 l2
  obtain ⟨_, H39, hr40, rfl, hs41⟩ := find_3 _ ((H19 ++ [.obj [vi x11.1.1, vi x11.1.2.1]]) : HH) (On.call [1, 2, 3, 4, 5] [0, 6, 7, 8, 9, 10] (by kernel_rfl) (On.new' hn22 (.obj [vi x11.1.1, vi x11.1.2.1]) hs20)) (c := c) (ks := ks) (q0 := q0) (q1 := q1) (q2 := q2) (S := S) (hand := hand) (l0 := l0) (l1 := l1) (l2 := l2) (p := x11.1) (by omega) (by omega) (by first | rfl | omega | simp <;> omega) (by first | rfl | omega | simp <;> omega) (by first | rfl | omega | simp <;> omega) (by omega) (by omega) (by omega)
  have hs41 : On [R, pts k (rowO EN true d L), pts n3 (cntO PN (ones (kz ++ [x11.1]))), itemsP EN cv (pin (m.take (i : Int).toNat)), pts n16 (.obj [vi x11.1.1, vi x11.1.2.1, vb x11.2.1]), pts n22 (.obj [vi x11.1.1, vi x11.1.2.1]), pts c (.obj [rff ks S, vi hand, .ptr q0 0, .ptr q1 0, .ptr q2 0]), pts ks (rowO NI true 0 S), ringP EN q0 64 l0, ringP EN q1 64 l1, ringP EN q2 64 l2] H39 := On.flat hs41
  have hcall42 : Runs pg an 44 [.one (.ptr c 0), .agg [vi x11.1.1, vi x11.1.2.1]] H19 [.one (vb false)] H39 := by
   refine runs_of ?_
   refine Runs.of (fn := Try.f44) Try.func44 rfl (by kernel_rfl) [(0, yp c), (1, .y (.agg [vi x11.1.1, vi x11.1.2.1]))] (by kernel_rfl) ?_
   refine rSq [(0, yp n22, (H19 ++ [.obj [vi x11.1.1, vi x11.1.2.1]]))] [(0, yp c), (3, yp n22)] (H19 ++ [.obj [vi x11.1.1, vi x11.1.2.1]])
     (cast (JZ (Ji (H := H19) (t := 33) (ty := 0) (n := n22) (v := .agg [vi x11.1.1, vi x11.1.2.1]) (cs := [vi x11.1.1, vi x11.1.2.1]) hn22 (by kernel_rfl) (by kernel_rfl) (by kernel_rfl))) (by kernel_rfl)) (by kernel_rfl) ?_
   refine rSq [(1, .y (.agg [vi x11.1.1, vi x11.1.2.1]), (H19 ++ [.obj [vi x11.1.1, vi x11.1.2.1]])), (2, .tup [.one (vi 0), .one (vi 0), .one (vi 3)], H39)] [(7, xi 3)] H39
     (cast (Jai (Ja (t := 33) (off := 0) (v := .agg [vi x11.1.1, vi x11.1.2.1]) (On.at (On.new' hn22 (.obj [vi x11.1.1, vi x11.1.2.1]) hs20) 10 rfl) (by kernel_rfl)) (JZ (Jn hr40 (by kernel_rfl)))) (by kernel_rfl)) (by kernel_rfl) ?_
   refine rS0 [(4, xb false)] (by kernel_rfl) ?_
   refine wE ?_
   exact ⟨Or.inr rfl, [.one (vb false)], (by kernel_rfl), ⟨rfl, rfl⟩⟩
  refine rSq [(2, .y (.agg [vi x11.1.1, vi x11.1.2.1]), H19), (3, xi 1, H19), (8, .y (.agg [vi x11.1.1, vi x11.1.2.1]), H19), (9, xb false, H39)] [(0, yp c), (1, xi kk), (7, .y (.one (cv))), (8, .y (.one (.mp n3))), (10, yp n16), (20, .y (.one (rowC k d L.length o m.length cp))), (21, xi (m.length : Int)), (22, xi i), (43, xb false)] H39
    (cast (Jai (Ja (t := 33) (off := 0) (v := .agg [vi x11.1.1, vi x11.1.2.1]) (On.at hs20 9 rfl) (by kernel_rfl)) (Jai (Jv (H := H19) (s := PN) (t := 75) (ty := 0) (id := n3) (x := x11.1) (l := ones (kz ++ [x11.1])) (v := 1) (On.at hs20 7 rfl) there_ok (got_one (CntOK.flat there_ok) (memB_last (CntOK.flat there_ok)))) (Jai (Ja (t := 33) (off := 0) (v := .agg [vi x11.1.1, vi x11.1.2.1]) (On.at hs20 9 rfl) (by kernel_rfl)) (JZ (Jn hcall42 (by kernel_rfl)))))) (by kernel_rfl)) (by kernel_rfl) ?_
  refine wG hs41 ?_
  intro H43 hs44
  refine wFk ?_
  obtain ⟨rfl, hl47, hs45⟩ | ⟨k48, d49, L50, o51, cd52, rfl, ho53, hc54, hl55, hs46⟩ := items_open hs44 3 rfl
  ·
   have hl47n : ((pin (m.take (i : Int).toNat)).length : Int) = 0 := by rw [hl47]; rfl
   obtain ⟨n56, hn56⟩ : ∃ n, n = List.length (H43 : HH) := ⟨_, rfl⟩
   have hlfz57 : ([(x11.1, (true, ()))].length : Int) = 1 := by { first | rfl | omega | simp <;> omega }
   refine rKq [(2, .y (.agg [vi x11.1.1, vi x11.1.2.1]), H43), (5, .y (.one (rowC n56 0 ([(x11.1, (true, ()))] : List EN.T).length 0 (([(x11.1, (true, ()))] : List EN.T).length) false)), (H43 ++ [rowO EN true 0 ([(x11.1, (true, ()))] : List EN.T)]))] [(0, yp c), (1, xi kk), (7, .y (.one (rowC n56 0 ([(x11.1, (true, ()))] : List EN.T).length 0 (([(x11.1, (true, ()))] : List EN.T).length) false))), (8, .y (.one (.mp n3))), (20, .y (.one (rowC k d L.length o m.length cp))), (21, xi (m.length : Int)), (22, xi i)] (H43 ++ [rowO EN true 0 ([(x11.1, (true, ()))] : List EN.T)])
     (cast (Jai (Ja (t := 33) (off := 0) (v := .agg [vi x11.1.1, vi x11.1.2.1]) (On.at hs45 3 rfl) (by kernel_rfl)) (JZ (Jb1 (H := H43) (s := EN) (t := 22) (u := 22) (el := 35) (by_ := 24) (z := [vi 0, vi 0, vb false]) (ty := 0) (b' := false) (nil' := true) (pu := true) (puy := true) (m := 1) (n' := ([(x11.1, (true, ()))] : List EN.T).length) (k := n56) (nl := 0) (l := ([] : List EN.T)) (lm := ([(x11.1, (true, ()))])) (l' := ([(x11.1, (true, ()))] : List EN.T)) (y := .sl false false true [vi x11.1.1, vi x11.1.2.1, vb true] 1) hn56 (by first | rfl | omega | (simp only [List.length_nil]; omega) | simp <;> omega) (by kernel_rfl) (slCells_slO (H := H43) (s := EN) (b := false) (nil := false) (capd := true) (l := [(x11.1, (true, ()))]) (n := 1) (by first | rfl | omega | (simp only [List.length_nil]; omega) | simp <;> omega)) (by kernel_rfl) (by kernel_rfl) (by kernel_rfl) (by kernel_rfl) (by kernel_rfl) (by kernel_rfl) (by kernel_rfl) (by first | rfl | omega | (simp only [List.length_nil]; omega) | simp <;> omega) (by first | rfl | omega | (simp only [List.length_nil]; omega) | simp <;> omega) (by omega) (by omega) (List.nil_append _) (by first | rfl | omega | (simp only [List.length_append, List.length_nil]; omega) | (simp; done) | (simp; omega))))) (by kernel_rfl)) (by kernel_rfl) ?_
   refine wG (On.new' hn56 (rowO EN true 0 ([(x11.1, (true, ()))] : List EN.T)) hs45) ?_
   intro H59 hs60
   refine wK ?_
   refine wR [(0, xi (i + 1), H59)] [(0, yp c), (1, xi kk), (7, .y (.one (rowC n56 0 ([(x11.1, (true, ()))] : List EN.T).length 0 (([(x11.1, (true, ()))] : List EN.T).length) false))), (8, .y (.one (.mp n3))), (20, .y (.one (rowC k d L.length o m.length cp))), (21, xi (m.length : Int)), (22, xi (i + 1))] H59
     (cast (JZ (Jj (H := H59) (t := 3) (u := 3) (a := i) (b := 1) (c := (i + 1)) (by omega))) (by kernel_rfl)) (by kernel_rfl) ?_
   have hs61 : On [R, pts k (rowO EN true d L), pts n3 (cntO PN (ones (kz ++ [x11.1]))), pts n16 (.obj [vi x11.1.1, vi x11.1.2.1, vb x11.2.1]), pts n22 (.obj [vi x11.1.1, vi x11.1.2.1]), pts c (.obj [rff ks S, vi hand, .ptr q0 0, .ptr q1 0, .ptr q2 0]), pts ks (rowO NI true 0 S), ringP EN q0 64 l0, ringP EN q1 64 l1, ringP EN q2 64 l2, itemsP EN (rowC n56 0 ([(x11.1, (true, ()))] : List EN.T).length 0 (([(x11.1, (true, ()))] : List EN.T).length) false) (pin (m.take ((i + 1) : Int).toNat))] H59 := On.shut (cs := [R, pts k (rowO EN true d L), pts n3 (cntO PN (ones (kz ++ [x11.1]))), pts n16 (.obj [vi x11.1.1, vi x11.1.2.1, vb x11.2.1]), pts n22 (.obj [vi x11.1.1, vi x11.1.2.1]), pts c (.obj [rff ks S, vi hand, .ptr q0 0, .ptr q1 0, .ptr q2 0]), pts ks (rowO NI true 0 S), ringP EN q0 64 l0, ringP EN q1 64 l1, ringP EN q2 64 l2, pts n56 (rowO EN true 0 ([(x11.1, (true, ()))] : List EN.T))]) [10] [0, 1, 2, 3, 4, 5, 6, 7, 8, 9] (by kernel_rfl) (fun _ x => items_row (by first | rfl | omega | simp <;> omega) (by first | rfl | omega | simp <;> omega) (fun _ => by first | rfl | omega | simp <;> omega) ((dt0 rfl (Nat.le_refl _)).trans ((by rw [← pin_step g1 hx11, hl47]; rfl))) x) hs60
   exact ⟨(H59, (i + 1), (rowC n56 0 ([(x11.1, (true, ()))] : List EN.T).length 0 (([(x11.1, (true, ()))] : List EN.T).length) false), (kz ++ [x11.1])), by kernel_rfl, (⟨(On.pick [0, 5, 6, 7, 8, 9, 1, 2, 10] [3, 4] (by kernel_rfl) hs61), by omega, by omega, pids_step g1 hx11 g3, by simp only [List.length_map, List.length_take]; omega⟩), (by show (_ : Nat) < _; simp only []; omega)⟩
  ·
   rcases Bool.eq_false_or_eq_true cd52 with rfl | rfl
   ·
    obtain ⟨n62, hn62⟩ : ∃ n, n = List.length (H43 : HH) := ⟨_, rfl⟩
    have hlfz63 : ([(x11.1, (true, ()))].length : Int) = 1 := by { first | rfl | omega | simp <;> omega }
    have hlfz65 : (((pin (m.take (i : Int).toNat)) ++ [(x11.1, (true, ()))]).length : Int) = (((pin (m.take (i : Int).toNat)).length : Int) + 1) := by { first | rfl | omega | simp <;> omega }
    refine rKq [(2, .y (.agg [vi x11.1.1, vi x11.1.2.1]), H43), (5, .y (.one (rowC n62 0 ((pin (m.take (i : Int).toNat)) ++ [(x11.1, (true, ()))]).length 0 (((pin (m.take (i : Int).toNat)) ++ [(x11.1, (true, ()))]).length) false)), (H43 ++ [rowO EN true 0 ((pin (m.take (i : Int).toNat)) ++ [(x11.1, (true, ()))])]))] [(0, yp c), (1, xi kk), (7, .y (.one (rowC n62 0 ((pin (m.take (i : Int).toNat)) ++ [(x11.1, (true, ()))]).length 0 (((pin (m.take (i : Int).toNat)) ++ [(x11.1, (true, ()))]).length) false))), (8, .y (.one (.mp n3))), (20, .y (.one (rowC k d L.length o m.length cp))), (21, xi (m.length : Int)), (22, xi i)] (H43 ++ [rowO EN true 0 ((pin (m.take (i : Int).toNat)) ++ [(x11.1, (true, ()))])])
      (cast (Jai (Ja (t := 33) (off := 0) (v := .agg [vi x11.1.1, vi x11.1.2.1]) (On.at hs46 3 rfl) (by kernel_rfl)) (JZ (Ji1 (H := H43) (s := EN) (t := 22) (u := 22) (el := 35) (by_ := 24) (z := [vi 0, vi 0, vb false]) (ty := 0) (pu := true) (puy := true) (id := k48) (d := d49) (o := o51) (n := ((pin (m.take (i : Int).toNat)).length)) (m := 1) (l := L50) (lm := ([(x11.1, (true, ()))])) (y := .sl false false true [vi x11.1.1, vi x11.1.2.1, vb true] 1) (n' := ((pin (m.take (i : Int).toNat)) ++ [(x11.1, (true, ()))]).length) (k := n62) (l' := ((pin (m.take (i : Int).toNat)) ++ [(x11.1, (true, ()))])) hn62 (On.at hs46 10 rfl) (slCells_slO (H := H43) (s := EN) (b := false) (nil := false) (capd := true) (l := [(x11.1, (true, ()))]) (n := 1) (by first | rfl | omega | simp <;> omega)) (by kernel_rfl) (by kernel_rfl) (by kernel_rfl) (by kernel_rfl) (by kernel_rfl) (by kernel_rfl) (by kernel_rfl) (by first | rfl | omega | simp <;> omega) (by first | rfl | omega | simp <;> omega) (by first | rfl | omega | simp <;> omega) (by omega) (by omega) (congrArg (fun z => z ++ _) (hl55)) (by first | (simp only [List.length_append]; done) | (simp only [List.length_append]; first | omega | (simp; done) | (simp; omega)))))) (by kernel_rfl)) (by kernel_rfl) ?_
    refine wG (On.new' hn62 (rowO EN true 0 ((pin (m.take (i : Int).toNat)) ++ [(x11.1, (true, ()))])) hs46) ?_
    intro H68 hs69
    refine wK ?_
    refine wR [(0, xi (i + 1), H68)] [(0, yp c), (1, xi kk), (7, .y (.one (rowC n62 0 ((pin (m.take (i : Int).toNat)) ++ [(x11.1, (true, ()))]).length 0 (((pin (m.take (i : Int).toNat)) ++ [(x11.1, (true, ()))]).length) false))), (8, .y (.one (.mp n3))), (20, .y (.one (rowC k d L.length o m.length cp))), (21, xi (m.length : Int)), (22, xi (i + 1))] H68
      (cast (JZ (Jj (H := H68) (t := 3) (u := 3) (a := i) (b := 1) (c := (i + 1)) (by omega))) (by kernel_rfl)) (by kernel_rfl) ?_
    have hs70 : On [R, pts k (rowO EN true d L), pts n3 (cntO PN (ones (kz ++ [x11.1]))), pts n16 (.obj [vi x11.1.1, vi x11.1.2.1, vb x11.2.1]), pts n22 (.obj [vi x11.1.1, vi x11.1.2.1]), pts c (.obj [rff ks S, vi hand, .ptr q0 0, .ptr q1 0, .ptr q2 0]), pts ks (rowO NI true 0 S), ringP EN q0 64 l0, ringP EN q1 64 l1, ringP EN q2 64 l2, pts k48 (rowO EN true d49 L50), itemsP EN (rowC n62 0 ((pin (m.take (i : Int).toNat)) ++ [(x11.1, (true, ()))]).length 0 (((pin (m.take (i : Int).toNat)) ++ [(x11.1, (true, ()))]).length) false) (pin (m.take ((i + 1) : Int).toNat))] H68 := On.shut (cs := [R, pts k (rowO EN true d L), pts n3 (cntO PN (ones (kz ++ [x11.1]))), pts n16 (.obj [vi x11.1.1, vi x11.1.2.1, vb x11.2.1]), pts n22 (.obj [vi x11.1.1, vi x11.1.2.1]), pts c (.obj [rff ks S, vi hand, .ptr q0 0, .ptr q1 0, .ptr q2 0]), pts ks (rowO NI true 0 S), ringP EN q0 64 l0, ringP EN q1 64 l1, ringP EN q2 64 l2, pts k48 (rowO EN true d49 L50), pts n62 (rowO EN true 0 ((pin (m.take (i : Int).toNat)) ++ [(x11.1, (true, ()))]))]) [11] [0, 1, 2, 3, 4, 5, 6, 7, 8, 9, 10] (by kernel_rfl) (fun _ x => items_row (by first | rfl | omega | simp <;> omega) (by first | rfl | omega | simp <;> omega) (fun _ => by first | rfl | omega | simp <;> omega) ((dt0 rfl (Nat.le_refl _)).trans ((pin_step g1 hx11))) x) hs69
    exact ⟨(H68, (i + 1), (rowC n62 0 ((pin (m.take (i : Int).toNat)) ++ [(x11.1, (true, ()))]).length 0 (((pin (m.take (i : Int).toNat)) ++ [(x11.1, (true, ()))]).length) false), (kz ++ [x11.1])), by kernel_rfl, (⟨(On.pick [0, 5, 6, 7, 8, 9, 1, 2, 11] [3, 4, 10] (by kernel_rfl) hs70), by omega, by omega, pids_step g1 hx11 g3, by simp only [List.length_map, List.length_take]; omega⟩), (by show (_ : Nat) < _; simp only []; omega)⟩
   ·
    have hc54z := hc54 rfl
    have hlfz71 : ([(x11.1, (true, ()))].length : Int) = 1 := by { first | rfl | omega | simp <;> omega }
    have hlfz73 : (((pin (m.take (i : Int).toNat)) ++ [(x11.1, (true, ()))]).length : Int) = (((pin (m.take (i : Int).toNat)).length : Int) + 1) := by { first | rfl | omega | simp <;> omega }
    refine rKq [(2, .y (.agg [vi x11.1.1, vi x11.1.2.1]), H43), (5, .y (.one (rowC k48 (d49 + o51) ((pin (m.take (i : Int).toNat)) ++ [(x11.1, (true, ()))]).length 0 (((pin (m.take (i : Int).toNat)) ++ [(x11.1, (true, ()))]).length) false)), (sto H43 k48 (rowO EN true (d49 + o51) ((pin (m.take (i : Int).toNat)) ++ [(x11.1, (true, ()))]))))] [(0, yp c), (1, xi kk), (7, .y (.one (rowC k48 (d49 + o51) ((pin (m.take (i : Int).toNat)) ++ [(x11.1, (true, ()))]).length 0 (((pin (m.take (i : Int).toNat)) ++ [(x11.1, (true, ()))]).length) false))), (8, .y (.one (.mp n3))), (20, .y (.one (rowC k d L.length o m.length cp))), (21, xi (m.length : Int)), (22, xi i)] (sto H43 k48 (rowO EN true (d49 + o51) ((pin (m.take (i : Int).toNat)) ++ [(x11.1, (true, ()))])))
      (cast (Jai (Ja (t := 33) (off := 0) (v := .agg [vi x11.1.1, vi x11.1.2.1]) (On.at hs46 3 rfl) (by kernel_rfl)) (JZ (Jj1 (H := H43) (s := EN) (t := 22) (u := 22) (el := 35) (by_ := 24) (z := [vi 0, vi 0, vb false]) (ty := 0) (pu := true) (puy := true) (id := k48) (d := d49) (o := o51) (n := ((pin (m.take (i : Int).toNat)).length)) (m := 1) (l := L50) (lm := ([(x11.1, (true, ()))])) (y := .sl false false true [vi x11.1.1, vi x11.1.2.1, vb true] 1) (d' := (d49 + o51)) (l' := ((pin (m.take (i : Int).toNat)) ++ [(x11.1, (true, ()))])) (n' := ((pin (m.take (i : Int).toNat)) ++ [(x11.1, (true, ()))]).length) (On.at hs46 10 rfl) (slCells_slO (H := H43) (s := EN) (b := false) (nil := false) (capd := true) (l := [(x11.1, (true, ()))]) (n := 1) (by first | rfl | omega | simp <;> omega)) (by kernel_rfl) (by kernel_rfl) (by kernel_rfl) (by kernel_rfl) (by kernel_rfl) (by kernel_rfl) (by kernel_rfl) (by first | rfl | omega | simp <;> omega) (by first | rfl | omega | simp <;> omega) (by first | rfl | omega | simp <;> omega) (by omega) (by omega) (by omega) (congrArg (fun z => z ++ ([(x11.1, (true, ()))])) (show L50.drop o51 = (pin (m.take (i : Int).toNat)) from (List.take_of_length_le (by rw [List.length_drop]; omega)).symm.trans (hl55))) (by first | (simp only [List.length_append]; done) | (simp only [List.length_append]; first | omega | (simp; done) | (simp; omega)))))) (by kernel_rfl)) (by kernel_rfl) ?_
    refine wG (On.put (rowO EN true (d49 + o51) ((pin (m.take (i : Int).toNat)) ++ [(x11.1, (true, ()))])) hs46 10 rfl) ?_
    intro H76 hs77
    refine wK ?_
    refine wR [(0, xi (i + 1), H76)] [(0, yp c), (1, xi kk), (7, .y (.one (rowC k48 (d49 + o51) ((pin (m.take (i : Int).toNat)) ++ [(x11.1, (true, ()))]).length 0 (((pin (m.take (i : Int).toNat)) ++ [(x11.1, (true, ()))]).length) false))), (8, .y (.one (.mp n3))), (20, .y (.one (rowC k d L.length o m.length cp))), (21, xi (m.length : Int)), (22, xi (i + 1))] H76
      (cast (JZ (Jj (H := H76) (t := 3) (u := 3) (a := i) (b := 1) (c := (i + 1)) (by omega))) (by kernel_rfl)) (by kernel_rfl) ?_
    have hs78 : On [R, pts k (rowO EN true d L), pts n3 (cntO PN (ones (kz ++ [x11.1]))), pts n16 (.obj [vi x11.1.1, vi x11.1.2.1, vb x11.2.1]), pts n22 (.obj [vi x11.1.1, vi x11.1.2.1]), pts c (.obj [rff ks S, vi hand, .ptr q0 0, .ptr q1 0, .ptr q2 0]), pts ks (rowO NI true 0 S), ringP EN q0 64 l0, ringP EN q1 64 l1, ringP EN q2 64 l2, itemsP EN (rowC k48 (d49 + o51) ((pin (m.take (i : Int).toNat)) ++ [(x11.1, (true, ()))]).length 0 (((pin (m.take (i : Int).toNat)) ++ [(x11.1, (true, ()))]).length) false) (pin (m.take ((i + 1) : Int).toNat))] H76 := On.shut (cs := [R, pts k (rowO EN true d L), pts n3 (cntO PN (ones (kz ++ [x11.1]))), pts n16 (.obj [vi x11.1.1, vi x11.1.2.1, vb x11.2.1]), pts n22 (.obj [vi x11.1.1, vi x11.1.2.1]), pts c (.obj [rff ks S, vi hand, .ptr q0 0, .ptr q1 0, .ptr q2 0]), pts ks (rowO NI true 0 S), ringP EN q0 64 l0, ringP EN q1 64 l1, ringP EN q2 64 l2, pts k48 (rowO EN true (d49 + o51) ((pin (m.take (i : Int).toNat)) ++ [(x11.1, (true, ()))]))]) [10] [0, 1, 2, 3, 4, 5, 6, 7, 8, 9] (by kernel_rfl) (fun _ x => items_row (by first | rfl | omega | simp <;> omega) (by first | rfl | omega | simp <;> omega) (fun _ => by first | rfl | omega | simp <;> omega) ((dt0 rfl (Nat.le_refl _)).trans ((pin_step g1 hx11))) x) hs77
    exact ⟨(H76, (i + 1), (rowC k48 (d49 + o51) ((pin (m.take (i : Int).toNat)) ++ [(x11.1, (true, ()))]).length 0 (((pin (m.take (i : Int).toNat)) ++ [(x11.1, (true, ()))]).length) false), (kz ++ [x11.1])), by kernel_rfl, (⟨(On.pick [0, 5, 6, 7, 8, 9, 1, 2, 10] [3, 4] (by kernel_rfl) hs78), by omega, by omega, pids_step g1 hx11 g3, by simp only [List.length_map, List.length_take]; omega⟩), (by show (_ : Nat) < _; simp only []; omega)⟩
 ·
  refine rSq [(0, xb false, H8)] [(0, yp c), (1, xi kk), (7, .y (.one (cv))), (8, .y (.one (.mp n3))), (20, .y (.one (rowC k d L.length o m.length cp))), (21, xi (m.length : Int)), (22, xi i), (23, xb false)] H8
    (cast (JZ (Je (H := H8) (t := 3) (u := 3) (a := i) (b := (m.length : Int)) (by omega))) (by kernel_rfl)) (by kernel_rfl) ?_
  refine wS ?_
  refine wFa ?_
  refine wX ?_
  refine Eq.mpr (if_pos rfl) ?_
  rcases (show kk = 0 ∨ kk = 1 ∨ kk = 2 from by omega) with rfl | rfl | rfl
  ·
   obtain ⟨rfl, hl81, hs79⟩ | ⟨k82, d83, L84, o85, cd86, rfl, ho87, hc88, hl89, hs80⟩ := items_open hs9 8 rfl
   ·
    have hl81n : ((pin (m.take (i : Int).toNat)).length : Int) = 0 := by rw [hl81]; rfl
    have hlfz90 : ((l0 ++ ([] : List EN.T)).length : Int) = (l0.length : Int) := by { first | rfl | omega | (simp only [List.length_nil]; omega) | simp <;> omega }
    obtain ⟨_, H92, hr93, rfl, hs94⟩ := join_ok_s _ (H8 : HH) (On.call [3] [0, 1, 2, 4, 5, 6, 7] (by kernel_rfl) hs79) (q := q0) (room := 64) (l := l0) (b := false) (nil := true) (cp := true) (m := ([] : List EN.T)) (by first | rfl | omega | (simp only [List.length_nil]; omega) | simp <;> omega)
    have hs94 : On [R, pts c (.obj [rff ks S, vi hand, .ptr q0 0, .ptr q1 0, .ptr q2 0]), pts ks (rowO NI true 0 S), ringP EN q1 64 l1, ringP EN q2 64 l2, pts k (rowO EN true d L), pts n3 (cntO PN (ones kz)), ringP EN q0 64 (l0 ++ ([] : List EN.T))] H92 := On.flat hs94
    refine rSq [(6, yp q0, H8), (8, xi 0, H92)] [(6, xi 0)] H92
      (cast (Jai (Ja (t := 50) (off := 2) (v := .one (.ptr q0 0)) (On.at hs79 1 rfl) (by kernel_rfl)) (JZ (Jn hr93 (by kernel_rfl)))) (by kernel_rfl)) (by kernel_rfl) ?_
    refine wG hs94 ?_
    intro H95 hs96
    refine wE ?_
    refine ⟨Or.inr rfl, [.one (vi 0)], (by kernel_rfl), ?_⟩
    exact .inl ⟨rfl, rfl, (On.pick [0, 1, 2, 7, 3, 4, 5] [6] (by kernel_rfl) (On.mono (A' := ringP EN q0 64 (l0 ++ pin m)) 7 rfl (fun _ x => by have e : (l0 ++ ([] : List EN.T)) = l0 ++ pin m := congrArg (fun z => l0 ++ z) ((hl81).symm.trans (pin_end (q := m) (i := i) (by omega))); rw [← e]; exact x) hs96))⟩
   ·
    have hlfz97 : ((l0 ++ (pin (m.take (i : Int).toNat))).length : Int) = ((l0.length : Int) + ((pin (m.take (i : Int).toNat)).length : Int)) := by { first | rfl | omega | simp <;> omega }
    obtain ⟨_, H99, hr100, rfl, hs101⟩ := join_ok_r _ (H8 : HH) (On.call [3, 8] [0, 1, 2, 4, 5, 6, 7] (by kernel_rfl) hs80) (q := q0) (room := 64) (l := l0) (k := k82) (d := d83) (o := o85) (cp := cd86) (L := L84) (m := (pin (m.take (i : Int).toNat))) (by first | rfl | omega | simp <;> omega) (hl89) (by first | rfl | omega | simp <;> omega)
    have hs101 : On [R, pts c (.obj [rff ks S, vi hand, .ptr q0 0, .ptr q1 0, .ptr q2 0]), pts ks (rowO NI true 0 S), ringP EN q1 64 l1, ringP EN q2 64 l2, pts k (rowO EN true d L), pts n3 (cntO PN (ones kz)), ringP EN q0 64 (l0 ++ (pin (m.take (i : Int).toNat))), pts k82 (rowO EN true d83 L84)] H99 := On.flat hs101
    refine rSq [(6, yp q0, H8), (8, xi 0, H99)] [(6, xi 0)] H99
      (cast (Jai (Ja (t := 50) (off := 2) (v := .one (.ptr q0 0)) (On.at hs80 1 rfl) (by kernel_rfl)) (JZ (Jn hr100 (by kernel_rfl)))) (by kernel_rfl)) (by kernel_rfl) ?_
    refine wG hs101 ?_
    intro H102 hs103
    refine wE ?_
    refine ⟨Or.inr rfl, [.one (vi 0)], (by kernel_rfl), ?_⟩
    exact .inl ⟨rfl, rfl, (On.pick [0, 1, 2, 7, 3, 4, 5] [6, 8] (by kernel_rfl) (On.mono (A' := ringP EN q0 64 (l0 ++ pin m)) 7 rfl (fun _ x => by have e : (l0 ++ (pin (m.take (i : Int).toNat))) = l0 ++ pin m := congrArg (fun z => l0 ++ z) (pin_end (q := m) (i := i) (by omega)); rw [← e]; exact x) hs103))⟩
  ·
   obtain ⟨rfl, hl106, hs104⟩ | ⟨k107, d108, L109, o110, cd111, rfl, ho112, hc113, hl114, hs105⟩ := items_open hs9 8 rfl
   ·
    have hl106n : ((pin (m.take (i : Int).toNat)).length : Int) = 0 := by rw [hl106]; rfl
    have hlfz115 : ((l1 ++ ([] : List EN.T)).length : Int) = (l1.length : Int) := by { first | rfl | omega | (simp only [List.length_nil]; omega) | simp <;> omega }
    obtain ⟨_, H117, hr118, rfl, hs119⟩ := join_ok_s _ (H8 : HH) (On.call [4] [0, 1, 2, 3, 5, 6, 7] (by kernel_rfl) hs104) (q := q1) (room := 64) (l := l1) (b := false) (nil := true) (cp := true) (m := ([] : List EN.T)) (by first | rfl | omega | (simp only [List.length_nil]; omega) | simp <;> omega)
    have hs119 : On [R, pts c (.obj [rff ks S, vi hand, .ptr q0 0, .ptr q1 0, .ptr q2 0]), pts ks (rowO NI true 0 S), ringP EN q0 64 l0, ringP EN q2 64 l2, pts k (rowO EN true d L), pts n3 (cntO PN (ones kz)), ringP EN q1 64 (l1 ++ ([] : List EN.T))] H117 := On.flat hs119
    refine rSq [(6, yp q1, H8), (8, xi 0, H117)] [(6, xi 0)] H117
      (cast (Jai (Ja (t := 50) (off := 3) (v := .one (.ptr q1 0)) (On.at hs104 1 rfl) (by kernel_rfl)) (JZ (Jn hr118 (by kernel_rfl)))) (by kernel_rfl)) (by kernel_rfl) ?_
    refine wG hs119 ?_
    intro H120 hs121
    refine wE ?_
    refine ⟨Or.inr rfl, [.one (vi 0)], (by kernel_rfl), ?_⟩
    exact .inr (.inl ⟨rfl, rfl, (On.pick [0, 1, 2, 3, 7, 4, 5] [6] (by kernel_rfl) (On.mono (A' := ringP EN q1 64 (l1 ++ pin m)) 7 rfl (fun _ x => by have e : (l1 ++ ([] : List EN.T)) = l1 ++ pin m := congrArg (fun z => l1 ++ z) ((hl106).symm.trans (pin_end (q := m) (i := i) (by omega))); rw [← e]; exact x) hs121))⟩)
   ·
    have hlfz122 : ((l1 ++ (pin (m.take (i : Int).toNat))).length : Int) = ((l1.length : Int) + ((pin (m.take (i : Int).toNat)).length : Int)) := by { first | rfl | omega | simp <;> omega }
    obtain ⟨_, H124, hr125, rfl, hs126⟩ := join_ok_r _ (H8 : HH) (On.call [4, 8] [0, 1, 2, 3, 5, 6, 7] (by kernel_rfl) hs105) (q := q1) (room := 64) (l := l1) (k := k107) (d := d108) (o := o110) (cp := cd111) (L := L109) (m := (pin (m.take (i : Int).toNat))) (by first | rfl | omega | simp <;> omega) (hl114) (by first | rfl | omega | simp <;> omega)
    have hs126 : On [R, pts c (.obj [rff ks S, vi hand, .ptr q0 0, .ptr q1 0, .ptr q2 0]), pts ks (rowO NI true 0 S), ringP EN q0 64 l0, ringP EN q2 64 l2, pts k (rowO EN true d L), pts n3 (cntO PN (ones kz)), ringP EN q1 64 (l1 ++ (pin (m.take (i : Int).toNat))), pts k107 (rowO EN true d108 L109)] H124 := On.flat hs126
    refine rSq [(6, yp q1, H8), (8, xi 0, H124)] [(6, xi 0)] H124
      (cast (Jai (Ja (t := 50) (off := 3) (v := .one (.ptr q1 0)) (On.at hs105 1 rfl) (by kernel_rfl)) (JZ (Jn hr125 (by kernel_rfl)))) (by kernel_rfl)) (by kernel_rfl) ?_
    refine wG hs126 ?_
    intro H127 hs128
    refine wE ?_
    refine ⟨Or.inr rfl, [.one (vi 0)], (by kernel_rfl), ?_⟩
    exact .inr (.inl ⟨rfl, rfl, (On.pick [0, 1, 2, 3, 7, 4, 5] [6, 8] (by kernel_rfl) (On.mono (A' := ringP EN q1 64 (l1 ++ pin m)) 7 rfl (fun _ x => by have e : (l1 ++ (pin (m.take (i : Int).toNat))) = l1 ++ pin m := congrArg (fun z => l1 ++ z) (pin_end (q := m) (i := i) (by omega)); rw [← e]; exact x) hs128))⟩)
  ·
   obtain ⟨rfl, hl131, hs129⟩ | ⟨k132, d133, L134, o135, cd136, rfl, ho137, hc138, hl139, hs130⟩ := items_open hs9 8 rfl
   ·
    have hl131n : ((pin (m.take (i : Int).toNat)).length : Int) = 0 := by rw [hl131]; rfl
    have hlfz140 : ((l2 ++ ([] : List EN.T)).length : Int) = (l2.length : Int) := by { first | rfl | omega | (simp only [List.length_nil]; omega) | simp <;> omega }
    obtain ⟨_, H142, hr143, rfl, hs144⟩ := join_ok_s _ (H8 : HH) (On.call [5] [0, 1, 2, 3, 4, 6, 7] (by kernel_rfl) hs129) (q := q2) (room := 64) (l := l2) (b := false) (nil := true) (cp := true) (m := ([] : List EN.T)) (by first | rfl | omega | (simp only [List.length_nil]; omega) | simp <;> omega)
    have hs144 : On [R, pts c (.obj [rff ks S, vi hand, .ptr q0 0, .ptr q1 0, .ptr q2 0]), pts ks (rowO NI true 0 S), ringP EN q0 64 l0, ringP EN q1 64 l1, pts k (rowO EN true d L), pts n3 (cntO PN (ones kz)), ringP EN q2 64 (l2 ++ ([] : List EN.T))] H142 := On.flat hs144
    refine rSq [(6, yp q2, H8), (8, xi 0, H142)] [(6, xi 0)] H142
      (cast (Jai (Ja (t := 50) (off := 4) (v := .one (.ptr q2 0)) (On.at hs129 1 rfl) (by kernel_rfl)) (JZ (Jn hr143 (by kernel_rfl)))) (by kernel_rfl)) (by kernel_rfl) ?_
    refine wG hs144 ?_
    intro H145 hs146
    refine wE ?_
    refine ⟨Or.inr rfl, [.one (vi 0)], (by kernel_rfl), ?_⟩
    exact .inr (.inr (⟨rfl, rfl, (On.pick [0, 1, 2, 3, 4, 7, 5] [6] (by kernel_rfl) (On.mono (A' := ringP EN q2 64 (l2 ++ pin m)) 7 rfl (fun _ x => by have e : (l2 ++ ([] : List EN.T)) = l2 ++ pin m := congrArg (fun z => l2 ++ z) ((hl131).symm.trans (pin_end (q := m) (i := i) (by omega))); rw [← e]; exact x) hs146))⟩))
   ·
    have hlfz147 : ((l2 ++ (pin (m.take (i : Int).toNat))).length : Int) = ((l2.length : Int) + ((pin (m.take (i : Int).toNat)).length : Int)) := by { first | rfl | omega | simp <;> omega }
    obtain ⟨_, H149, hr150, rfl, hs151⟩ := join_ok_r _ (H8 : HH) (On.call [5, 8] [0, 1, 2, 3, 4, 6, 7] (by kernel_rfl) hs130) (q := q2) (room := 64) (l := l2) (k := k132) (d := d133) (o := o135) (cp := cd136) (L := L134) (m := (pin (m.take (i : Int).toNat))) (by first | rfl | omega | simp <;> omega) (hl139) (by first | rfl | omega | simp <;> omega)
    have hs151 : On [R, pts c (.obj [rff ks S, vi hand, .ptr q0 0, .ptr q1 0, .ptr q2 0]), pts ks (rowO NI true 0 S), ringP EN q0 64 l0, ringP EN q1 64 l1, pts k (rowO EN true d L), pts n3 (cntO PN (ones kz)), ringP EN q2 64 (l2 ++ (pin (m.take (i : Int).toNat))), pts k132 (rowO EN true d133 L134)] H149 := On.flat hs151
    refine rSq [(6, yp q2, H8), (8, xi 0, H149)] [(6, xi 0)] H149
      (cast (Jai (Ja (t := 50) (off := 4) (v := .one (.ptr q2 0)) (On.at hs130 1 rfl) (by kernel_rfl)) (JZ (Jn hr150 (by kernel_rfl)))) (by kernel_rfl)) (by kernel_rfl) ?_
    refine wG hs151 ?_
    intro H152 hs153
    refine wE ?_
    refine ⟨Or.inr rfl, [.one (vi 0)], (by kernel_rfl), ?_⟩
    exact .inr (.inr (⟨rfl, rfl, (On.pick [0, 1, 2, 3, 4, 7, 5] [6, 8] (by kernel_rfl) (On.mono (A' := ringP EN q2 64 (l2 ++ pin m)) 7 rfl (fun _ x => by have e : (l2 ++ (pin (m.take (i : Int).toNat))) = l2 ++ pin m := congrArg (fun z => l2 ++ z) (pin_end (q := m) (i := i) (by omega)); rw [← e]; exact x) hs153))⟩))
end Go.Proofs.Ytoidoeappihplaa
