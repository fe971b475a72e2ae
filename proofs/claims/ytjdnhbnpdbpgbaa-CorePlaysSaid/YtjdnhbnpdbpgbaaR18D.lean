/- Lemmas. -/
import Derived.Test.YtjdnhbnpdbpgbaaR18B
import Derived.Test.YtjdnhbnpdbpgbaaR18C
import Derived.Test.YtjdnhbnpdbpgbaaX32
namespace Go.Proofs.Ytjdnhbnpdbpgbaa
open Go.Lg
set_option linter.unusedVariables false
set_option maxRecDepth 100000
set_option maxHeartbeats 8000000
set_option linter.unusedSimpArgs false
theorem there_key (x : PN.T) (e : Bool) : pv pg (Instr.checkKey e 10000 38 (.agg (vals PN x).toArray)) = some () := by kernel_rfl
theorem there_ok : CntOK pg PN 77 38 3 := ⟨by kernel_rfl, by kernel_rfl, by kernel_rfl, rfl, there_key, by kernel_rfl⟩
def posI (p : PN.T) (l : List EN.T) : Int := match l.findIdx? (fun y => eqb PN y.1 p) with | some i => (i : Int) | none => -1
theorem posI_bd (p : PN.T) (l : List EN.T) : -1 ≤ posI p l ∧ posI p l < l.length := by
  unfold posI
  split
  · rename_i i h
    have := (List.findIdx?_eq_some_iff_getElem.1 h).1
    omega
  · omega
theorem posI_none {p : PN.T} {l : List EN.T} (h : ∀ y ∈ l, eqb PN y.1 p = false) : posI p l = -1 := by
  unfold posI
  rw [List.findIdx?_eq_none_iff.2 h]
theorem posI_at {p : PN.T} {l : List EN.T} {i : Int} {x : EN.T} (h0 : 0 ≤ i) (hx : l[i.toNat]? = some x) (he : eqb PN x.1 p = true) (h : ∀ y ∈ l.take i.toNat, eqb PN y.1 p = false) : posI p l = i := by
  obtain ⟨hi, he'⟩ := List.getElem?_eq_some_iff.1 hx
  have : l.findIdx? (fun y => eqb PN y.1 p) = some i.toNat := by
    rw [List.findIdx?_eq_some_iff_getElem]
    refine ⟨hi, by rw [he']; exact he, fun j hj => ?_⟩
    rw [h _ (List.mem_take_iff_getElem.2 ⟨j, by omega, rfl⟩)]
    simp
  unfold posI
  rw [this]
  show ((i.toNat : Nat) : Int) = i
  omega
theorem idx_step {p : PN.T} {l : List EN.T} {i : Int} {x : EN.T} (h0 : 0 ≤ i) (h : ∀ y ∈ l.take i.toNat, eqb PN y.1 p = false) (hx : l[i.toNat]? = some x) (he : eqb PN x.1 p = false) : ∀ y ∈ l.take (i + 1).toNat, eqb PN y.1 p = false := by
  intro y hy
  rw [show (i + 1).toNat = i.toNat + 1 by omega, List.take_add_one, hx] at hy
  rcases List.mem_append.1 hy with hy | hy
  · exact h y hy
  · simp at hy; subst hy; exact he
theorem all_of_take {α : Type} {P : α → Prop} {l : List α} {i : Int} (h : ∀ y ∈ l.take i.toNat, P y) (hi : (l.length : Int) ≤ i) : ∀ y ∈ l, P y := by
  rw [List.take_of_length_le (by omega)] at h
  exact h
theorem posI_lt {p : PN.T} {l : List EN.T} (h : posI p l < 0) : ∀ y ∈ l, eqb PN y.1 p = false := by
  unfold posI at h
  split at h
  · omega
  · rename_i h2
    exact List.findIdx?_eq_none_iff.1 h2
theorem posI_get {p : PN.T} {l : List EN.T} (h : 0 ≤ posI p l) : ∃ x, l[(posI p l).toNat]? = some x ∧ x.1 = p := by
  unfold posI at h ⊢
  split at h
  · rename_i i h2
    obtain ⟨h3, h4, _⟩ := List.findIdx?_eq_some_iff_getElem.1 h2
    exact ⟨l[i], by rw [em_, List.getElem?_eq_getElem h3], eqb_eq rfl h4⟩
  · omega
abbrev pids (l : List EN.T) : List PN.T := l.map (·.1)
theorem posI_neg {p : PN.T} {l : List EN.T} : posI p l < 0 ↔ p ∉ pids l := by
  constructor
  · intro h hp
    obtain ⟨y, hy, rfl⟩ := List.mem_map.1 hp
    have := posI_lt h y hy
    rw [eqb_refl rfl] at this
    cases this
  · intro h
    by_cases h2 : 0 ≤ posI p l
    · obtain ⟨x, hx, rfl⟩ := posI_get h2
      exact absurd (List.mem_map.2 ⟨x, List.mem_of_getElem? hx, rfl⟩) h
    · omega
theorem idx_ok (R : HP) (H : HH) (k kp : Nat) (l : List EN.T) (p : PN.T) (hs : On [R, pts k (rowO EN true 0 l), pts kp (.obj [vi p.1, vi p.2.1])] H) (hb : (l.length : Int) ≤ 65536) : ∃ rs H', Runs pg an 54 [.one (rft k l), .one (.fn (.func 56) [] [.ptr kp 0])] H rs H' ∧ rs = [.one (vi (posI p l))] ∧ On [R, pts k (rowO EN true 0 l), pts kp (.obj [vi p.1, vi p.2.1])] H' := by
 refine rOF Try.func54 rfl ?_
 refine rs0 [(0, .y (.one (rft k l))), (1, .y (.one (.fn (.func 56) [] [.ptr kp 0])))] ?_
 refine wS ?_
 refine rSz [(0, .y (.one (rft k l))), (1, .y (.one (.fn (.func 56) [] [.ptr kp 0]))), (7, xi (l.length : Int)), (8, xi 0)] H (zL 1 (Jc (H := H) (s := EN) (t := 23) (ty := 0) (pu := true) (capd := true) (id := k) (d := 0) (o := 0) (n := l.length) (l := l) (e := (l.length : Int)) (On.at hs 1 rfl) (by kernel_rfl) (by first | rfl | omega | (simp only [ek_]; omega) | (simp; done) | (simp; omega)))) ?_
 refine wB ?_
 refine Wp.loop (T := HH × Int) (fun t => match t with | (H2, i) => (((l.length : Int) - i).toNat : Nat)) (fun t => match t with | (H2, i) => ([(0, .y (.one (rft k l))), (1, .y (.one (.fn (.func 56) [] [.ptr kp 0]))), (7, xi (l.length : Int)), (8, xi i)] : Env)) (fun t => match t with | (H2, i) => (H2 : HH))
   (fun t => match t with | (H2, i) => (On [R, pts k (rowO EN true 0 l), pts kp (.obj [vi p.1, vi p.2.1])] H2 ∧ (0 ≤ i) ∧ (i ≤ (l.length : Int)) ∧ (∀ y ∈ l.take i.toNat, eqb PN y.1 p = false) : Prop)) (H, 0) (by kernel_rfl) (⟨(On.pick [0, 1, 2] [] (by kernel_rfl) hs), by omega, by omega, by simp⟩) ?_
 rintro ⟨H2, i⟩ ⟨hs3, g1, g2, g3⟩
 show Wp _ _ _ _ [(0, .y (.one (rft k l))), (1, .y (.one (.fn (.func 56) [] [.ptr kp 0]))), (7, xi (l.length : Int)), (8, xi i)] H2 _
 by_cases c4 : (i : Int) < (l.length : Int)
 ·
  refine rSz [(0, .y (.one (rft k l))), (1, .y (.one (.fn (.func 56) [] [.ptr kp 0]))), (7, xi (l.length : Int)), (8, xi i), (9, xb true)] H2 (zL 0 (qlssT H2 i (l.length : Int))) ?_
  refine wS (wTk ?_)
  refine wS (wB ?_)
  refine rs0 [(0, .y (.one (rft k l))), (1, .y (.one (.fn (.func 56) [] [.ptr kp 0]))), (5, xi i), (7, xi (l.length : Int)), (8, xi i)] ?_
  obtain ⟨x5, hx5⟩ : ∃ x : EN.T, l[(i : Int).toNat]? = some x := get_of (by first | rfl | omega | (simp only [ek_]; omega) | (simp; done) | (simp; omega))
  obtain ⟨n7, hn7⟩ := lX H2
  rcases Bool.eq_false_or_eq_true ((eqb PN x5.1 p)) with c9 | c9
  ·
   have hcall10 : Runs pg an 56 [.agg [vi x5.1.1, vi x5.1.2.1, vb x5.2.1], .one (.ptr kp 0)] H2 [.one (vb true)] (H2 ++ [.obj [vi x5.1.1, vi x5.1.2.1, vb x5.2.1]]) := by
    refine runs_of ?_
    refine rOF Try.func56 rfl ?_
    refine rSz [(1, yp kp), (2, yp n7)] (H2 ++ [.obj [vi x5.1.1, vi x5.1.2.1, vb x5.2.1]]) (zL 0 (qB 40 [vi x5.1.1, vi x5.1.2.1, vb x5.2.1] hn7)) ?_
    refine rSz [(3, xb true)] (H2 ++ [.obj [vi x5.1.1, vi x5.1.2.1, vb x5.2.1]]) (zA 1 (qL 38 0 (.agg [vi x5.1.1, vi x5.1.2.1]) (On.at (On.new' hn7 (.obj [vi x5.1.1, vi x5.1.2.1, vb x5.2.1]) hs3) 3 rfl)) (zA 2 (qL 38 0 (.agg [vi p.1, vi p.2.1]) (On.at (On.new' hn7 (.obj [vi x5.1.1, vi x5.1.2.1, vb x5.2.1]) hs3) 2 rfl)) (zL 3 (Ji (H := (H2 ++ [.obj [vi x5.1.1, vi x5.1.2.1, vb x5.2.1]])) (s := PN) (t := 38) (u := 38) (ty := 0) (x := x5.1) (y := p) (r := true) (by kernel_rfl) c9)))) ?_
    refine wE ?_
    exact ⟨Or.inr rfl, [.one (vb true)], (by kernel_rfl), ⟨rfl, rfl⟩⟩
   refine rGz [(0, .y (.one (rft k l))), (1, .y (.one (.fn (.func 56) [] [.ptr kp 0]))), (5, xi i), (7, xi (l.length : Int)), (8, xi i), (16, xb true)] (On.new' hn7 (.obj [vi x5.1.1, vi x5.1.2.1, vb x5.2.1]) hs3) (zA 3 (Jl (H := H2) (s := EN) (t := 23) (el := 40) (ty := 0) (pu := true) (capd := true) (id := k) (d := 0) (o := 0) (n := l.length) (j := ((i : Int).toNat)) (l := l) (i := i) (On.at hs3 1 rfl) Try.underlying23 (by kernel_rfl) (by omega) (by first | rfl | omega | (simp only [ek_]; omega) | (simp; done) | (simp; omega)) (by first | rfl | omega | (simp only [ek_]; omega) | (simp; done) | (simp; omega)) (by first | rfl | omega | (simp only [ek_]; omega) | (simp; done) | (simp; omega))) (zA 4 (Jt (H := H2) (s := EN) (t := 40) (ty := 0) (pu := true) (id := k) (d := 0) (j := ((i : Int).toNat)) (o := 0) (n := 3) (l := l) (x := x5) (v := .agg [vi x5.1.1, vi x5.1.2.1, vb x5.2.1]) (On.at hs3 1 rfl) (by kernel_rfl) (by kernel_rfl) (of_content (dt0 rfl (Nat.le_refl _)) hx5 (by first | rfl | omega | (simp only [ek_]; omega) | (simp; done) | (simp; omega))) (by kernel_rfl)) (zL 5 (Jh1 (H := H2) (g := 56) (first := []) (cap := [.ptr kp 0]) (vals := [.y (.agg [vi x5.1.1, vi x5.1.2.1, vb x5.2.1])]) (xs0 := [.agg [vi x5.1.1, vi x5.1.2.1, vb x5.2.1]]) (res := [.one (vb true)]) (ats := #[]) (ty := 0) (v := xb true) (H' := ((H2 ++ [.obj [vi x5.1.1, vi x5.1.2.1, vb x5.2.1]]) : HH)) [.tmp 1] (by kernel_rfl) (by kernel_rfl) (by exact hcall10) (by kernel_rfl))))) fun H11 hs12 => ?_
   refine wTa ?_
   refine rs0 [(4, xi i)] ?_
   refine wE ?_
   refine ⟨Or.inr rfl, [.one (vi i)], (by kernel_rfl), ?_⟩
   exact ⟨congrArg (fun z : Int => [Y.one (vi z)]) (Eq.symm (posI_at g1 hx5 c9 g3)), (On.pick [0, 1, 2] [3] (by kernel_rfl) hs12)⟩
  have hcall13 : Runs pg an 56 [.agg [vi x5.1.1, vi x5.1.2.1, vb x5.2.1], .one (.ptr kp 0)] H2 [.one (vb false)] (H2 ++ [.obj [vi x5.1.1, vi x5.1.2.1, vb x5.2.1]]) := by
   refine runs_of ?_
   refine rOF Try.func56 rfl ?_
   refine rSz [(1, yp kp), (2, yp n7)] (H2 ++ [.obj [vi x5.1.1, vi x5.1.2.1, vb x5.2.1]]) (zL 0 (qB 40 [vi x5.1.1, vi x5.1.2.1, vb x5.2.1] hn7)) ?_
   refine rSz [(3, xb false)] (H2 ++ [.obj [vi x5.1.1, vi x5.1.2.1, vb x5.2.1]]) (zA 1 (qL 38 0 (.agg [vi x5.1.1, vi x5.1.2.1]) (On.at (On.new' hn7 (.obj [vi x5.1.1, vi x5.1.2.1, vb x5.2.1]) hs3) 3 rfl)) (zA 2 (qL 38 0 (.agg [vi p.1, vi p.2.1]) (On.at (On.new' hn7 (.obj [vi x5.1.1, vi x5.1.2.1, vb x5.2.1]) hs3) 2 rfl)) (zL 3 (Ji (H := (H2 ++ [.obj [vi x5.1.1, vi x5.1.2.1, vb x5.2.1]])) (s := PN) (t := 38) (u := 38) (ty := 0) (x := x5.1) (y := p) (r := false) (by kernel_rfl) c9)))) ?_
   refine wE ?_
   exact ⟨Or.inr rfl, [.one (vb false)], (by kernel_rfl), ⟨rfl, rfl⟩⟩
  refine rGz [(0, .y (.one (rft k l))), (1, .y (.one (.fn (.func 56) [] [.ptr kp 0]))), (5, xi i), (7, xi (l.length : Int)), (8, xi i), (16, xb false)] (On.new' hn7 (.obj [vi x5.1.1, vi x5.1.2.1, vb x5.2.1]) hs3) (zA 3 (Jl (H := H2) (s := EN) (t := 23) (el := 40) (ty := 0) (pu := true) (capd := true) (id := k) (d := 0) (o := 0) (n := l.length) (j := ((i : Int).toNat)) (l := l) (i := i) (On.at hs3 1 rfl) Try.underlying23 (by kernel_rfl) (by omega) (by first | rfl | omega | (simp only [ek_]; omega) | (simp; done) | (simp; omega)) (by first | rfl | omega | (simp only [ek_]; omega) | (simp; done) | (simp; omega)) (by first | rfl | omega | (simp only [ek_]; omega) | (simp; done) | (simp; omega))) (zA 4 (Jt (H := H2) (s := EN) (t := 40) (ty := 0) (pu := true) (id := k) (d := 0) (j := ((i : Int).toNat)) (o := 0) (n := 3) (l := l) (x := x5) (v := .agg [vi x5.1.1, vi x5.1.2.1, vb x5.2.1]) (On.at hs3 1 rfl) (by kernel_rfl) (by kernel_rfl) (of_content (dt0 rfl (Nat.le_refl _)) hx5 (by first | rfl | omega | (simp only [ek_]; omega) | (simp; done) | (simp; omega))) (by kernel_rfl)) (zL 5 (Jh1 (H := H2) (g := 56) (first := []) (cap := [.ptr kp 0]) (vals := [.y (.agg [vi x5.1.1, vi x5.1.2.1, vb x5.2.1])]) (xs0 := [.agg [vi x5.1.1, vi x5.1.2.1, vb x5.2.1]]) (res := [.one (vb false)]) (ats := #[]) (ty := 0) (v := xb false) (H' := ((H2 ++ [.obj [vi x5.1.1, vi x5.1.2.1, vb x5.2.1]]) : HH)) [.tmp 1] (by kernel_rfl) (by kernel_rfl) (by exact hcall13) (by kernel_rfl))))) fun H14 hs15 => ?_
  refine wFk ?_
  refine rRz [(0, .y (.one (rft k l))), (1, .y (.one (.fn (.func 56) [] [.ptr kp 0]))), (7, xi (l.length : Int)), (8, xi (i + 1))] H14 (zL 0 (qoAdd H14 i 1 (i + 1))) ?_
  exact ⟨(H14, (i + 1)), by kernel_rfl, (⟨(On.pick [0, 1, 2] [3] (by kernel_rfl) hs15), by omega, by omega, idx_step g1 g3 hx5 c9⟩), (by show (_ : Nat) < _; simp only []; omega)⟩
 refine rSz [(0, .y (.one (rft k l))), (1, .y (.one (.fn (.func 56) [] [.ptr kp 0]))), (7, xi (l.length : Int)), (8, xi i), (9, xb false)] H2 (zL 0 (qlssF H2 i (l.length : Int))) ?_
 refine wS ?_
 refine wFa ?_
 refine wX ?_
 refine Eq.mpr (if_pos rfl) ?_
 refine rs0 [(4, xi (-1))] ?_
 refine wE ?_
 refine ⟨Or.inr rfl, [.one (vi (-1))], (by kernel_rfl), ?_⟩
 exact ⟨congrArg (fun z : Int => [Y.one (vi z)]) (Eq.symm (posI_none (all_of_take g3 (by omega)))), (On.pick [0, 1, 2] [] (by kernel_rfl) hs3)⟩
theorem find_all (R : HP) (H : HH) (c ks q0 q1 q2 : Nat) (S : List Int) (hand : Int) (l0 l1 l2 : List EN.T) (p : PN.T) (hs : On [R, pts c (.obj (cO ks S hand q0 q1 q2)), kP ks S, gP q0 l0, gP q1 l1, gP q2 l2] H) (hS : 3 ≤ (S.length : Int)) (hT : (S.length : Int) ≤ 64) (b0 : (l0.length : Int) ≤ 64) (b1 : (l1.length : Int) ≤ 64) (b2 : (l2.length : Int) ≤ 64) : ∃ rs H', Runs pg an 38 [.one (.ptr c 0), .agg [vi p.1, vi p.2.1]] H rs H' ∧ ((0 ≤ posI p l0 ∧ rs = [.one (vi 0), .one (vi (posI p l0)), .one (vi 0)] ∧ On [R, pts c (.obj (cO ks S hand q0 q1 q2)), kP ks S, gP q0 l0, gP q1 l1, gP q2 l2] H') ∨ (posI p l0 < 0 ∧ 0 ≤ posI p l1 ∧ rs = [.one (vi 1), .one (vi (posI p l1)), .one (vi 0)] ∧ On [R, pts c (.obj (cO ks S hand q0 q1 q2)), kP ks S, gP q0 l0, gP q1 l1, gP q2 l2] H') ∨ (posI p l0 < 0 ∧ posI p l1 < 0 ∧ 0 ≤ posI p l2 ∧ rs = [.one (vi 2), .one (vi (posI p l2)), .one (vi 0)] ∧ On [R, pts c (.obj (cO ks S hand q0 q1 q2)), kP ks S, gP q0 l0, gP q1 l1, gP q2 l2] H') ∨ (posI p l0 < 0 ∧ posI p l1 < 0 ∧ posI p l2 < 0 ∧ rs = [.one (vi 0), .one (vi 0), .one (vi 3)] ∧ On [R, pts c (.obj (cO ks S hand q0 q1 q2)), kP ks S, gP q0 l0, gP q1 l1, gP q2 l2] H')) := by
 refine rOF Try.func38 rfl ?_
 obtain ⟨n1, hn1⟩ := lX H
 refine rGz [(0, yp c), (3, yp n1)] (On.new' hn1 (.obj [vi p.1, vi p.2.1]) hs) (zL 0 (qB 38 [vi p.1, vi p.2.1] hn1)) fun H2 hs3 => ?_
 refine wS ?_
 have hcall4 : Runs pg an 31 [.one (.ptr c 0)] H2 [.one (vb true)] H2 := by
  refine runs_of ?_
  refine rOF Try.func31 rfl ?_
  refine rs0 [(0, yp c)] ?_
  refine rSz [(2, xb true)] H2 (zA 6 (qL 22 0 (.one (rff ks S)) (On.at hs3 1 rfl)) (zA 7 (Jc (H := H2) (s := NI) (t := 22) (ty := 0) (pu := true) (capd := false) (id := ks) (d := 0) (o := 0) (n := S.length) (l := S) (e := (S.length : Int)) (On.at hs3 2 rfl) (by kernel_rfl) (by first | rfl | omega | (simp only [ek_]; omega) | (simp; done) | (simp; omega))) (zL 8 (qgtrT H2 (S.length : Int) 0)))) ?_
  refine wE ?_
  exact ⟨Or.inr rfl, [.one (vb true)], (by kernel_rfl), ⟨rfl, rfl⟩⟩
 refine rSz [(0, yp c), (3, yp n1), (11, xb false)] H2 (zL 1 (qC1 hcall4)) ?_
 refine wFk ?_
 refine wS ?_
 refine rs0 [(0, yp c), (3, yp n1), (12, xi 0)] ?_
 refine wB ?_
 refine Wp.loopU [(0, yp c), (3, yp n1), (12, xi 0)] (some ([0, 3, 12], false)) (List.length H2) (by kernel_rfl) ?_
 refine WpL.step ?_
 refine rs0 [(0, yp c), (3, yp n1), (12, xi 0), (13, xb true)] ?_
 refine wS (wTk ?_)
 refine wS (wB ?_)
 refine rs0 [(0, yp c), (3, yp n1), (7, xi 0), (12, xi 0)] ?_
 obtain ⟨_, H6, hr7, k5, rfl, hs8⟩ := items_ok _ (H2 : HH) (On.call [3] [0, 1, 2, 4, 5, 6] (by kernel_rfl) hs3) (q := q0) (room := 64) (l := l0)
 have hs8 : On [R, pts c (.obj (cO ks S hand q0 q1 q2)), kP ks S, gP q1 l1, gP q2 l2, pts n1 (.obj [vi p.1, vi p.2.1]), gP q0 l0, pts k5 (rowO EN true 0 l0)] H6 := On.flat hs8
 obtain ⟨_, H10, hr11, rfl, hs12⟩ := idx_ok _ (H6 : HH) (On.call [7, 5] [0, 1, 2, 3, 4, 6] (by kernel_rfl) hs8) (k := k5) (kp := n1) (l := l0) (p := p) (by first | rfl | omega | (simp only [ek_]; omega) | (simp; done) | (simp; omega))
 have hs12 : On [R, pts c (.obj (cO ks S hand q0 q1 q2)), kP ks S, gP q1 l1, gP q2 l2, gP q0 l0, pts k5 (rowO EN true 0 l0), pts n1 (.obj [vi p.1, vi p.2.1])] H10 := On.flat hs12
 have hz9 := posI_bd p l0
 refine rGz [(0, yp c), (3, yp n1), (7, xi 0), (8, xi (posI p l0)), (12, xi 0)] hs12 (zA 6 (qL 78 2 (.one (.ptr q0 0)) (On.at hs3 1 rfl)) (zA 7 (qC1 hr7) (zL 9 (qC2 hr11)))) fun H13 hs14 => ?_
 by_cases c15 : (0 : Int) ≤ (posI p l0)
 ·
  refine rSz [(0, yp c), (3, yp n1), (7, xi 0), (8, xi (posI p l0)), (12, xi 0), (26, xb true)] H13 (zL 1 (qgeqT H13 (posI p l0) 0)) ?_
  refine wTa ?_
  refine rs0 [(4, xi 0), (5, xi (posI p l0)), (6, xi 0)] ?_
  refine wE ?_
  refine ⟨Or.inr rfl, [.one (vi 0), .one (vi (posI p l0)), .one (vi 0)], (by kernel_rfl), ?_⟩
  exact .inl ⟨by omega, rfl, (On.pick [0, 1, 2, 5, 3, 4] [6, 7] (by kernel_rfl) hs14)⟩
 refine rSz [(0, yp c), (3, yp n1), (7, xi 0), (8, xi (posI p l0)), (12, xi 0), (26, xb false)] H13 (zL 1 (qgeqF H13 (posI p l0) 0)) ?_
 refine wFk ?_
 refine rRz [(0, yp c), (3, yp n1), (12, xi 1)] H13 zN ?_
 refine ⟨_, _, rfl, ?_⟩
 refine WpL.step ?_
 refine rs0 [(0, yp c), (3, yp n1), (12, xi 1), (13, xb true)] ?_
 refine wS (wTk ?_)
 refine wS (wB ?_)
 refine rs0 [(0, yp c), (3, yp n1), (7, xi 1), (12, xi 1)] ?_
 obtain ⟨_, H17, hr18, k16, rfl, hs19⟩ := items_ok _ (H13 : HH) (On.call [3] [0, 1, 2, 4, 5, 6, 7] (by kernel_rfl) hs14) (q := q1) (room := 64) (l := l1)
 have hs19 : On [R, pts c (.obj (cO ks S hand q0 q1 q2)), kP ks S, gP q2 l2, gP q0 l0, pts k5 (rowO EN true 0 l0), pts n1 (.obj [vi p.1, vi p.2.1]), gP q1 l1, pts k16 (rowO EN true 0 l1)] H17 := On.flat hs19
 obtain ⟨_, H21, hr22, rfl, hs23⟩ := idx_ok _ (H17 : HH) (On.call [8, 6] [0, 1, 2, 3, 4, 5, 7] (by kernel_rfl) hs19) (k := k16) (kp := n1) (l := l1) (p := p) (by first | rfl | omega | (simp only [ek_]; omega) | (simp; done) | (simp; omega))
 have hs23 : On [R, pts c (.obj (cO ks S hand q0 q1 q2)), kP ks S, gP q2 l2, gP q0 l0, pts k5 (rowO EN true 0 l0), gP q1 l1, pts k16 (rowO EN true 0 l1), pts n1 (.obj [vi p.1, vi p.2.1])] H21 := On.flat hs23
 have hz20 := posI_bd p l1
 refine rGz [(0, yp c), (3, yp n1), (7, xi 1), (8, xi (posI p l1)), (12, xi 1)] hs23 (zA 6 (qL 78 3 (.one (.ptr q1 0)) (On.at hs14 1 rfl)) (zA 7 (qC1 hr18) (zL 9 (qC2 hr22)))) fun H24 hs25 => ?_
 by_cases c26 : (0 : Int) ≤ (posI p l1)
 ·
  refine rSz [(0, yp c), (3, yp n1), (7, xi 1), (8, xi (posI p l1)), (12, xi 1), (26, xb true)] H24 (zL 1 (qgeqT H24 (posI p l1) 0)) ?_
  refine wTa ?_
  refine rs0 [(4, xi 1), (5, xi (posI p l1)), (6, xi 0)] ?_
  refine wE ?_
  refine ⟨Or.inr rfl, [.one (vi 1), .one (vi (posI p l1)), .one (vi 0)], (by kernel_rfl), ?_⟩
  exact .inr (.inl ⟨by omega, by omega, rfl, (On.pick [0, 1, 2, 4, 6, 3] [5, 7, 8] (by kernel_rfl) hs25)⟩)
 refine rSz [(0, yp c), (3, yp n1), (7, xi 1), (8, xi (posI p l1)), (12, xi 1), (26, xb false)] H24 (zL 1 (qgeqF H24 (posI p l1) 0)) ?_
 refine wFk ?_
 refine rRz [(0, yp c), (3, yp n1), (12, xi 2)] H24 zN ?_
 refine ⟨_, _, rfl, ?_⟩
 refine WpL.step ?_
 refine rs0 [(0, yp c), (3, yp n1), (12, xi 2), (13, xb true)] ?_
 refine wS (wTk ?_)
 refine wS (wB ?_)
 refine rs0 [(0, yp c), (3, yp n1), (7, xi 2), (12, xi 2)] ?_
 obtain ⟨_, H28, hr29, k27, rfl, hs30⟩ := items_ok _ (H24 : HH) (On.call [3] [0, 1, 2, 4, 5, 6, 7, 8] (by kernel_rfl) hs25) (q := q2) (room := 64) (l := l2)
 have hs30 : On [R, pts c (.obj (cO ks S hand q0 q1 q2)), kP ks S, gP q0 l0, pts k5 (rowO EN true 0 l0), gP q1 l1, pts k16 (rowO EN true 0 l1), pts n1 (.obj [vi p.1, vi p.2.1]), gP q2 l2, pts k27 (rowO EN true 0 l2)] H28 := On.flat hs30
 obtain ⟨_, H32, hr33, rfl, hs34⟩ := idx_ok _ (H28 : HH) (On.call [9, 7] [0, 1, 2, 3, 4, 5, 6, 8] (by kernel_rfl) hs30) (k := k27) (kp := n1) (l := l2) (p := p) (by first | rfl | omega | (simp only [ek_]; omega) | (simp; done) | (simp; omega))
 have hs34 : On [R, pts c (.obj (cO ks S hand q0 q1 q2)), kP ks S, gP q0 l0, pts k5 (rowO EN true 0 l0), gP q1 l1, pts k16 (rowO EN true 0 l1), gP q2 l2, pts k27 (rowO EN true 0 l2), pts n1 (.obj [vi p.1, vi p.2.1])] H32 := On.flat hs34
 have hz31 := posI_bd p l2
 refine rGz [(0, yp c), (3, yp n1), (7, xi 2), (8, xi (posI p l2)), (12, xi 2)] hs34 (zA 6 (qL 78 4 (.one (.ptr q2 0)) (On.at hs25 1 rfl)) (zA 7 (qC1 hr29) (zL 9 (qC2 hr33)))) fun H35 hs36 => ?_
 by_cases c37 : (0 : Int) ≤ (posI p l2)
 ·
  refine rSz [(0, yp c), (3, yp n1), (7, xi 2), (8, xi (posI p l2)), (12, xi 2), (26, xb true)] H35 (zL 1 (qgeqT H35 (posI p l2) 0)) ?_
  refine wTa ?_
  refine rs0 [(4, xi 2), (5, xi (posI p l2)), (6, xi 0)] ?_
  refine wE ?_
  refine ⟨Or.inr rfl, [.one (vi 2), .one (vi (posI p l2)), .one (vi 0)], (by kernel_rfl), ?_⟩
  exact .inr (.inr (.inl ⟨by omega, by omega, by omega, rfl, (On.pick [0, 1, 2, 3, 5, 7] [4, 6, 8, 9] (by kernel_rfl) hs36)⟩))
 refine rSz [(0, yp c), (3, yp n1), (7, xi 2), (8, xi (posI p l2)), (12, xi 2), (26, xb false)] H35 (zL 1 (qgeqF H35 (posI p l2) 0)) ?_
 refine wFk ?_
 refine rRz [(0, yp c), (3, yp n1), (12, xi 3)] H35 zN ?_
 refine ⟨_, _, rfl, ?_⟩
 refine WpL.step ?_
 refine rs0 [(0, yp c), (3, yp n1), (12, xi 3), (13, xb false)] ?_
 refine wS ?_
 refine wFa ?_
 refine wX ?_
 refine Eq.mpr (if_pos rfl) ?_
 refine rs0 [(4, xi 0), (5, xi 0), (6, xi 3)] ?_
 refine wE ?_
 refine ⟨Or.inr rfl, [.one (vi 0), .one (vi 0), .one (vi 3)], (by kernel_rfl), ?_⟩
 exact .inr (.inr (.inr (⟨by omega, by omega, by omega, rfl, (On.pick [0, 1, 2, 3, 5, 7] [4, 6, 8, 9] (by kernel_rfl) hs36)⟩)))
theorem find_0 (R : HP) (H : HH) (c ks q0 q1 q2 : Nat) (S : List Int) (hand : Int) (l0 l1 l2 : List EN.T) (p : PN.T) (hs : On [R, pts c (.obj (cO ks S hand q0 q1 q2)), kP ks S, gP q0 l0, gP q1 l1, gP q2 l2] H) (hS : 3 ≤ (S.length : Int)) (hT : (S.length : Int) ≤ 64) (b0 : (l0.length : Int) ≤ 64) (b1 : (l1.length : Int) ≤ 64) (b2 : (l2.length : Int) ≤ 64) (h0 : 0 ≤ posI p l0) : ∃ rs H', Runs pg an 38 [.one (.ptr c 0), .agg [vi p.1, vi p.2.1]] H rs H' ∧ rs = [.one (vi 0), .one (vi (posI p l0)), .one (vi 0)] ∧ On [R, pts c (.obj (cO ks S hand q0 q1 q2)), kP ks S, gP q0 l0, gP q1 l1, gP q2 l2] H' := by
  obtain ⟨rs, H', e1, e2⟩ := find_all R H c ks q0 q1 q2 S hand l0 l1 l2 p hs hS hT b0 b1 b2
  rcases e2 with ⟨_, e2⟩ | ⟨_, _, e2⟩ | ⟨_, _, _, e2⟩ | ⟨_, _, _, e2⟩ <;> first | (exfalso; omega) | exact ⟨rs, H', e1, e2⟩
theorem find_1 (R : HP) (H : HH) (c ks q0 q1 q2 : Nat) (S : List Int) (hand : Int) (l0 l1 l2 : List EN.T) (p : PN.T) (hs : On [R, pts c (.obj (cO ks S hand q0 q1 q2)), kP ks S, gP q0 l0, gP q1 l1, gP q2 l2] H) (hS : 3 ≤ (S.length : Int)) (hT : (S.length : Int) ≤ 64) (b0 : (l0.length : Int) ≤ 64) (b1 : (l1.length : Int) ≤ 64) (b2 : (l2.length : Int) ≤ 64) (h0 : posI p l0 < 0) (h1 : 0 ≤ posI p l1) : ∃ rs H', Runs pg an 38 [.one (.ptr c 0), .agg [vi p.1, vi p.2.1]] H rs H' ∧ rs = [.one (vi 1), .one (vi (posI p l1)), .one (vi 0)] ∧ On [R, pts c (.obj (cO ks S hand q0 q1 q2)), kP ks S, gP q0 l0, gP q1 l1, gP q2 l2] H' := by
  obtain ⟨rs, H', e1, e2⟩ := find_all R H c ks q0 q1 q2 S hand l0 l1 l2 p hs hS hT b0 b1 b2
  rcases e2 with ⟨_, e2⟩ | ⟨_, _, e2⟩ | ⟨_, _, _, e2⟩ | ⟨_, _, _, e2⟩ <;> first | (exfalso; omega) | exact ⟨rs, H', e1, e2⟩
theorem find_2 (R : HP) (H : HH) (c ks q0 q1 q2 : Nat) (S : List Int) (hand : Int) (l0 l1 l2 : List EN.T) (p : PN.T) (hs : On [R, pts c (.obj (cO ks S hand q0 q1 q2)), kP ks S, gP q0 l0, gP q1 l1, gP q2 l2] H) (hS : 3 ≤ (S.length : Int)) (hT : (S.length : Int) ≤ 64) (b0 : (l0.length : Int) ≤ 64) (b1 : (l1.length : Int) ≤ 64) (b2 : (l2.length : Int) ≤ 64) (h0 : posI p l0 < 0) (h1 : posI p l1 < 0) (h2 : 0 ≤ posI p l2) : ∃ rs H', Runs pg an 38 [.one (.ptr c 0), .agg [vi p.1, vi p.2.1]] H rs H' ∧ rs = [.one (vi 2), .one (vi (posI p l2)), .one (vi 0)] ∧ On [R, pts c (.obj (cO ks S hand q0 q1 q2)), kP ks S, gP q0 l0, gP q1 l1, gP q2 l2] H' := by
  obtain ⟨rs, H', e1, e2⟩ := find_all R H c ks q0 q1 q2 S hand l0 l1 l2 p hs hS hT b0 b1 b2
  rcases e2 with ⟨_, e2⟩ | ⟨_, _, e2⟩ | ⟨_, _, _, e2⟩ | ⟨_, _, _, e2⟩ <;> first | (exfalso; omega) | exact ⟨rs, H', e1, e2⟩
theorem find_3 (R : HP) (H : HH) (c ks q0 q1 q2 : Nat) (S : List Int) (hand : Int) (l0 l1 l2 : List EN.T) (p : PN.T) (hs : On [R, pts c (.obj (cO ks S hand q0 q1 q2)), kP ks S, gP q0 l0, gP q1 l1, gP q2 l2] H) (hS : 3 ≤ (S.length : Int)) (hT : (S.length : Int) ≤ 64) (b0 : (l0.length : Int) ≤ 64) (b1 : (l1.length : Int) ≤ 64) (b2 : (l2.length : Int) ≤ 64) (h0 : posI p l0 < 0) (h1 : posI p l1 < 0) (h2 : posI p l2 < 0) : ∃ rs H', Runs pg an 38 [.one (.ptr c 0), .agg [vi p.1, vi p.2.1]] H rs H' ∧ rs = [.one (vi 0), .one (vi 0), .one (vi 3)] ∧ On [R, pts c (.obj (cO ks S hand q0 q1 q2)), kP ks S, gP q0 l0, gP q1 l1, gP q2 l2] H' := by
  obtain ⟨rs, H', e1, e2⟩ := find_all R H c ks q0 q1 q2 S hand l0 l1 l2 p hs hS hT b0 b1 b2
  rcases e2 with ⟨_, e2⟩ | ⟨_, _, e2⟩ | ⟨_, _, _, e2⟩ | ⟨_, _, _, e2⟩ <;> first | (exfalso; omega) | exact ⟨rs, H', e1, e2⟩
end Go.Proofs.Ytjdnhbnpdbpgbaa
