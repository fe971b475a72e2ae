/- Lemmas. -/
import Derived.Test.YtbkdpmkjcoaapaaR28SC
namespace Go.Proofs.Ytbkdpmkjcoaapaa
open Go.Lg
set_option linter.unusedVariables false
set_option maxRecDepth 100000
set_option maxHeartbeats 8000000
set_option linter.unusedSimpArgs false
theorem ob_load_fro {P : Program} {A : Ann} {H : HH} {t ty : TypeId} {id off n : Nat} {cs cs' : List C} {v : Y} (hH : H[id]? = some (.map (.fro cs))) (ht : szT P t = some n) (hn : (Nat.ble 1 n && Nat.ble (off + n) cs.length) = true) (hc : sub off n cs = cs')
    (hv : mkY (isAggT P t) cs' = some v) : Ob P A [.y (.one (.ptr id off))] H (.load t (.tmp 0)) ty (.y v) H := by
  simp only [Bool.and_eq_true, Nat.ble_eq] at hn
  refine ⟨0, ?_⟩
  show ((some (C.ptr id off)).bind fun c => (szT P t).bind fun n => if 0 < n then (ldCells H c n).bind fun cs => (mkY (isAggT P t) cs).map fun v => (X.y v, H) else none) = _
  simp only [Option.bind_some, ht]
  rw [if_pos (show 0 < n by omega)]
  unfold ldCells
  simp only [hH]
  rw [if_pos hn.2]
  simp only [Option.bind_some, hc, hv, Option.map_some]
def keepB (b : Int) : Int → Bool := fun x => decide (b ≤ x)
theorem keep_t {b x : Int} (h : ¬ x < b) : keepB b x = true := decide_eq_true (by omega)
theorem keep_f {b x : Int} (h : x < b) : keepB b x = false := decide_eq_false (by omega)
theorem all_step {b : Int} {l : List Int} {i x : Int} (h0 : 0 ≤ i) (h : ∀ y ∈ l.take i.toNat, keepB b y = true) (hx : l[i.toNat]? = some x) (hk : ¬ x < b) : ∀ y ∈ l.take (i + 1).toNat, keepB b y = true := by
  rw [show (i + 1).toNat = i.toNat + 1 by omega, List.take_add_one, hx]
  intro y hy
  rcases List.mem_append.1 hy with hy | hy
  · exact h y hy
  · simp at hy; subst hy; exact keep_t hk
theorem all_end {b : Int} {l : List Int} {i : Int} (h : ∀ y ∈ l.take i.toNat, keepB b y = true) (hi : (l.length : Int) ≤ i) : l.filter (keepB b) = l := by
  rw [List.take_of_length_le (by omega)] at h
  exact List.filter_eq_self.2 h
def Moved (b : Int) (l M : List Int) (i j : Int) : Prop := M.length = l.length ∧ 0 ≤ i ∧ i ≤ j ∧ j ≤ (l.length : Int) ∧ M.take i.toNat = (l.take j.toNat).filter (keepB b) ∧ M.drop j.toNat = l.drop j.toNat
theorem Moved.start {b : Int} {l : List Int} {i x : Int} (h0 : 0 ≤ i) (h : ∀ y ∈ l.take i.toNat, keepB b y = true) (hx : l[i.toNat]? = some x) (hk : x < b) : Moved b l l i (i + 1) := by
  obtain ⟨hl, _⟩ := List.getElem?_eq_some_iff.1 hx
  refine ⟨rfl, h0, by omega, by omega, ?_, rfl⟩
  rw [show (i + 1).toNat = i.toNat + 1 by omega, List.take_add_one, hx, List.filter_append, List.filter_eq_self.2 h]
  simp [keep_f hk]
theorem Moved.at {b : Int} {l M : List Int} {i j : Int} (h : Moved b l M i j) (hj : 0 ≤ j) : M[j.toNat]? = l[j.toNat]? := by
  have := congrArg (fun z => z[0]?) h.2.2.2.2.2
  simpa [ef_] using this
theorem Moved.skip {b : Int} {l M : List Int} {i j x : Int} (h : Moved b l M i j) (hx : M[j.toNat]? = some x) (hk : x < b) : Moved b l M i (j + 1) := by
  obtain ⟨h1, h2, h3, h4, h5, h6⟩ := h
  have hj : l[j.toNat]? = some x := by rw [← hx]; exact (Moved.at ⟨h1, h2, h3, h4, h5, h6⟩ (by omega)).symm
  obtain ⟨hl, _⟩ := List.getElem?_eq_some_iff.1 hj
  have e : (j + 1).toNat = j.toNat + 1 := by omega
  refine ⟨h1, h2, by omega, by omega, ?_, ?_⟩
  · rw [e, List.take_add_one, hj, List.filter_append, ← h5]; simp [keep_f hk]
  · rw [e, ← List.drop_drop, h6, List.drop_drop]
theorem Moved.move {b : Int} {l M : List Int} {i j x : Int} (h : Moved b l M i j) (hx : M[j.toNat]? = some x) (hk : ¬ x < b) : Moved b l (M.set i.toNat x) (i + 1) (j + 1) := by
  obtain ⟨h1, h2, h3, h4, h5, h6⟩ := h
  have hj : l[j.toNat]? = some x := by rw [← hx]; exact (Moved.at ⟨h1, h2, h3, h4, h5, h6⟩ (by omega)).symm
  obtain ⟨hl, _⟩ := List.getElem?_eq_some_iff.1 hj
  have e : (j + 1).toNat = j.toNat + 1 := by omega
  have ei : (i + 1).toNat = i.toNat + 1 := by omega
  refine ⟨by rw [List.length_set]; exact h1, by omega, by omega, by omega, ?_, ?_⟩
  · rw [e, List.take_add_one, hj, List.filter_append, ← h5, ei, List.take_add_one, List.getElem?_set_self (by omega), List.take_set_of_le (Nat.le_refl _)]
    simp [keep_t hk]
  · rw [e, List.drop_set_of_lt (by omega), ← List.drop_drop, h6, List.drop_drop]
theorem Moved.done {b : Int} {l M : List Int} {i j : Int} (h : Moved b l M i j) (hj : (l.length : Int) ≤ j) : M.take i.toNat = l.filter (keepB b) := by
  rw [h.2.2.2.2.1, List.take_of_length_le (by omega)]
theorem idxf (R : HP) (H : HH) (k : Nat) (L l : List Int) (a b s : Nat) (now r tk last : Int) (rc qc : C) (hs : On [R, pts k (rowO NI true 0 L), pts a (.obj [vi now]), pts b (.map (.fro [.ptr s 0])), pts s (.obj [vb true, vi 1, vi r, vi tk, kids, rc, qc, vi last, vb false])] H) (hle : l.length ≤ L.length) (hlt : L.take l.length = l) (hll : (l.length : Int) ≤ 1048577) (ht0 : 1 ≤ tk) (ht1 : tk ≤ 1048576) (hn0 : 0 ≤ now) (hn1 : now ≤ 4611686018427387903) : ∃ rs H', Runs pg an 38 [.one (rowC k 0 L.length 0 l.length false), .one (.fn (.func 24) [] [.ptr a 0, .ptr b 0])] H rs H' ∧ ((l.filter (keepB (now - tk)) = l ∧ rs = [.one (vi (-1))] ∧ On [R, pts k (rowO NI true 0 L), pts a (.obj [vi now]), pts b (.map (.fro [.ptr s 0])), pts s (.obj [vb true, vi 1, vi r, vi tk, kids, rc, qc, vi last, vb false])] H') ∨ (∃ i x, 0 ≤ i ∧ i < (l.length : Int) ∧ (∀ y ∈ l.take i.toNat, keepB (now - tk) y = true) ∧ l[i.toNat]? = some x ∧ x < now - tk ∧ rs = [.one (vi i)] ∧ On [R, pts k (rowO NI true 0 L), pts a (.obj [vi now]), pts b (.map (.fro [.ptr s 0])), pts s (.obj [vb true, vi 1, vi r, vi tk, kids, rc, qc, vi last, vb false])] H')) := by
 have hl : (L.drop 0).take l.length = l := by rw [ec_]; exact hlt
 refine rOF Try.func38 rfl ?_
 refine rs0 [(0, .y (.one (rowC k 0 L.length 0 l.length false))), (1, .y (.one (.fn (.func 24) [] [.ptr a 0, .ptr b 0])))] ?_
 refine wS ?_
 refine rSz [(0, .y (.one (rowC k 0 L.length 0 l.length false))), (1, .y (.one (.fn (.func 24) [] [.ptr a 0, .ptr b 0]))), (7, xi (l.length : Int)), (8, xi 0)] H (zL 1 (Jc (H := H) (s := NI) (t := 22) (ty := 0) (pu := true) (capd := false) (id := k) (d := 0) (o := 0) (n := l.length) (l := L) (e := (l.length : Int)) (On.at hs 1 rfl) (by kernel_rfl) (by first | rfl | omega | (simp only [ek_]; omega) | (simp; done) | (simp; omega)))) ?_
 refine wB ?_
 refine Wp.loop (T := HH × Int) (fun t => match t with | (H2, i) => (((l.length : Int) - i).toNat : Nat)) (fun t => match t with | (H2, i) => ([(0, .y (.one (rowC k 0 L.length 0 l.length false))), (1, .y (.one (.fn (.func 24) [] [.ptr a 0, .ptr b 0]))), (7, xi (l.length : Int)), (8, xi i)] : Env)) (fun t => match t with | (H2, i) => (H2 : HH))
   (fun t => match t with | (H2, i) => (On [R, pts k (rowO NI true 0 L), pts a (.obj [vi now]), pts b (.map (.fro [.ptr s 0])), pts s (.obj [vb true, vi 1, vi r, vi tk, kids, rc, qc, vi last, vb false])] H2 ∧ (0 ≤ i) ∧ (i ≤ (l.length : Int)) ∧ (∀ y ∈ l.take i.toNat, keepB (now - tk) y = true) : Prop)) (H, 0) (by kernel_rfl) (⟨(On.pick [0, 1, 2, 3, 4] [] (by kernel_rfl) hs), by omega, by omega, by simp⟩) ?_
 rintro ⟨H2, i⟩ ⟨hs3, g1, g2, g3⟩
 show Wp _ _ _ _ [(0, .y (.one (rowC k 0 L.length 0 l.length false))), (1, .y (.one (.fn (.func 24) [] [.ptr a 0, .ptr b 0]))), (7, xi (l.length : Int)), (8, xi i)] H2 _
 by_cases c4 : (i : Int) < (l.length : Int)
 ·
  refine rSz [(0, .y (.one (rowC k 0 L.length 0 l.length false))), (1, .y (.one (.fn (.func 24) [] [.ptr a 0, .ptr b 0]))), (7, xi (l.length : Int)), (8, xi i), (9, xb true)] H2 (zL 0 (qlssT H2 i (l.length : Int))) ?_
  refine wS (wTk ?_)
  refine wS (wB ?_)
  refine rs0 [(0, .y (.one (rowC k 0 L.length 0 l.length false))), (1, .y (.one (.fn (.func 24) [] [.ptr a 0, .ptr b 0]))), (5, xi i), (7, xi (l.length : Int)), (8, xi i)] ?_
  obtain ⟨x5, hx5⟩ : ∃ x : Int, l[(i : Int).toNat]? = some x := get_of (by first | rfl | omega | (simp only [ek_]; omega) | (simp; done) | (simp; omega))
  by_cases c7 : (x5 : Int) < (now - tk)
  ·
   have hcall8 : Runs pg an 24 [.one (vi x5), .one (.ptr a 0), .one (.ptr b 0)] H2 [.one (vb true)] H2 := by
    refine runs_of ?_
    refine rOF Try.func24 rfl ?_
    refine rs0 [(0, xi x5), (1, yp a), (2, yp b)] ?_
    refine rSz [(4, xb true)] H2 (zA 1 (qL 3 0 (.one (vi now)) (On.at hs3 2 rfl)) (zA 2 (ob_load_fro (P := pg) (A := an) (H := H2) (t := 27) (ty := 0) (id := b) (off := 0) (n := 1) (cs := [.ptr s 0]) (cs' := [.ptr s 0]) (v := .one (.ptr s 0)) (On.at hs3 3 rfl) (by kernel_rfl) (by kernel_rfl) (by kernel_rfl) (by kernel_rfl)) (zA 6 (qL 3 3 (.one (vi tk)) (On.at hs3 4 rfl)) (zA 7 (qoSub H2 now tk (now - tk)) (zL 8 (qlssT H2 x5 (now - tk))))))) ?_
    refine wE ?_
    exact ⟨Or.inr rfl, [.one (vb true)], (by kernel_rfl), ⟨rfl, rfl⟩⟩
   refine rSz [(0, .y (.one (rowC k 0 L.length 0 l.length false))), (1, .y (.one (.fn (.func 24) [] [.ptr a 0, .ptr b 0]))), (5, xi i), (7, xi (l.length : Int)), (8, xi i), (16, xb true)] H2 (zA 3 (Ja (H := H2) (s := NI) (t := 22) (el := 3) (ty := 0) (pu := true) (capd := false) (id := k) (d := 0) (o := 0) (n := l.length) (j := ((i : Int).toNat)) (l := L) (i := i) (On.at hs3 1 rfl) Try.underlying22 (by kernel_rfl) (by omega) (by first | rfl | omega | (simp only [ek_]; omega) | (simp; done) | (simp; omega)) (by first | rfl | omega | (simp only [ek_]; omega) | (simp; done) | (simp; omega)) (by first | rfl | omega | (simp only [ek_]; omega) | (simp; done) | (simp; omega))) (zA 4 (Jb (H := H2) (s := NI) (t := 3) (ty := 0) (pu := true) (id := k) (d := 0) (j := ((i : Int).toNat)) (o := 0) (n := 1) (l := L) (x := x5) (v := .one (vi x5)) (On.at hs3 1 rfl) (by kernel_rfl) (by kernel_rfl) (of_content (L := L) (o := 0) (n := l.length) (hl) hx5 (by first | rfl | omega | (simp only [ek_]; omega) | (simp; done) | (simp; omega))) (by kernel_rfl)) (zL 5 (Jd (H := H2) (g := 24) (first := []) (cap := [.ptr a 0, .ptr b 0]) (vals := [xi x5]) (xs0 := [.one (vi x5)]) (res := [.one (vb true)]) (ats := #[]) (ty := 0) (v := xb true) (H' := (H2 : HH)) [.tmp 1] (by kernel_rfl) (by kernel_rfl) (by exact hcall8) (by kernel_rfl))))) ?_
   refine wTa ?_
   refine rs0 [(4, xi i)] ?_
   refine wE ?_
   refine ⟨Or.inr rfl, [.one (vi i)], (by kernel_rfl), ?_⟩
   exact .inr ⟨i, x5, g1, by omega, g3, hx5, by omega, rfl, (On.pick [0, 1, 2, 3, 4] [] (by kernel_rfl) hs3)⟩
  have hcall9 : Runs pg an 24 [.one (vi x5), .one (.ptr a 0), .one (.ptr b 0)] H2 [.one (vb false)] H2 := by
   refine runs_of ?_
   refine rOF Try.func24 rfl ?_
   refine rs0 [(0, xi x5), (1, yp a), (2, yp b)] ?_
   refine rSz [(4, xb false)] H2 (zA 1 (qL 3 0 (.one (vi now)) (On.at hs3 2 rfl)) (zA 2 (ob_load_fro (P := pg) (A := an) (H := H2) (t := 27) (ty := 0) (id := b) (off := 0) (n := 1) (cs := [.ptr s 0]) (cs' := [.ptr s 0]) (v := .one (.ptr s 0)) (On.at hs3 3 rfl) (by kernel_rfl) (by kernel_rfl) (by kernel_rfl) (by kernel_rfl)) (zA 6 (qL 3 3 (.one (vi tk)) (On.at hs3 4 rfl)) (zA 7 (qoSub H2 now tk (now - tk)) (zL 8 (qlssF H2 x5 (now - tk))))))) ?_
   refine wE ?_
   exact ⟨Or.inr rfl, [.one (vb false)], (by kernel_rfl), ⟨rfl, rfl⟩⟩
  refine rSz [(0, .y (.one (rowC k 0 L.length 0 l.length false))), (1, .y (.one (.fn (.func 24) [] [.ptr a 0, .ptr b 0]))), (5, xi i), (7, xi (l.length : Int)), (8, xi i), (16, xb false)] H2 (zA 3 (Ja (H := H2) (s := NI) (t := 22) (el := 3) (ty := 0) (pu := true) (capd := false) (id := k) (d := 0) (o := 0) (n := l.length) (j := ((i : Int).toNat)) (l := L) (i := i) (On.at hs3 1 rfl) Try.underlying22 (by kernel_rfl) (by omega) (by first | rfl | omega | (simp only [ek_]; omega) | (simp; done) | (simp; omega)) (by first | rfl | omega | (simp only [ek_]; omega) | (simp; done) | (simp; omega)) (by first | rfl | omega | (simp only [ek_]; omega) | (simp; done) | (simp; omega))) (zA 4 (Jb (H := H2) (s := NI) (t := 3) (ty := 0) (pu := true) (id := k) (d := 0) (j := ((i : Int).toNat)) (o := 0) (n := 1) (l := L) (x := x5) (v := .one (vi x5)) (On.at hs3 1 rfl) (by kernel_rfl) (by kernel_rfl) (of_content (L := L) (o := 0) (n := l.length) (hl) hx5 (by first | rfl | omega | (simp only [ek_]; omega) | (simp; done) | (simp; omega))) (by kernel_rfl)) (zL 5 (Jd (H := H2) (g := 24) (first := []) (cap := [.ptr a 0, .ptr b 0]) (vals := [xi x5]) (xs0 := [.one (vi x5)]) (res := [.one (vb false)]) (ats := #[]) (ty := 0) (v := xb false) (H' := (H2 : HH)) [.tmp 1] (by kernel_rfl) (by kernel_rfl) (by exact hcall9) (by kernel_rfl))))) ?_
  refine wFk ?_
  refine rRz [(0, .y (.one (rowC k 0 L.length 0 l.length false))), (1, .y (.one (.fn (.func 24) [] [.ptr a 0, .ptr b 0]))), (7, xi (l.length : Int)), (8, xi (i + 1))] H2 (zL 0 (qoAdd H2 i 1 (i + 1))) ?_
  exact ⟨(H2, (i + 1)), by kernel_rfl, (⟨(On.pick [0, 1, 2, 3, 4] [] (by kernel_rfl) hs3), by omega, by omega, all_step g1 g3 hx5 (by omega)⟩), (by show (_ : Nat) < _; simp only []; omega)⟩
 refine rSz [(0, .y (.one (rowC k 0 L.length 0 l.length false))), (1, .y (.one (.fn (.func 24) [] [.ptr a 0, .ptr b 0]))), (7, xi (l.length : Int)), (8, xi i), (9, xb false)] H2 (zL 0 (qlssF H2 i (l.length : Int))) ?_
 refine wS ?_
 refine wFa ?_
 refine wX ?_
 refine Eq.mpr (if_pos rfl) ?_
 refine rs0 [(4, xi (-1))] ?_
 refine wE ?_
 refine ⟨Or.inr rfl, [.one (vi (-1))], (by kernel_rfl), ?_⟩
 exact .inl ⟨all_end g3 (by omega), rfl, (On.pick [0, 1, 2, 3, 4] [] (by kernel_rfl) hs3)⟩
theorem del_end {b : Int} {l M : List Int} {i j : Int} {k : Nat} (h : Moved b l (M.take l.length) i j) (hj : (l.length : Int) ≤ j) (hM : l.length ≤ M.length) (hk : i.toNat + k ≤ M.length) :
    (splice i.toNat (List.replicate k 0) M).take i.toNat = l.filter (keepB b) ∧ i.toNat = (l.filter (keepB b)).length ∧ (splice i.toNat (List.replicate k 0) M).length = M.length := by
  have hi := h.2.1
  have h3 := h.2.2.1
  have h4 := h.2.2.2.1
  have e : (splice i.toNat (List.replicate k 0) M).take i.toNat = M.take i.toNat := by
    unfold splice
    rw [List.append_assoc, List.take_append_of_le_length (by rw [eh_]; omega)]
    exact List.take_of_length_le (by rw [eh_]; omega)
  have d := h.done hj
  rw [List.take_take, Nat.min_eq_left (by omega)] at d
  refine ⟨e.trans d, ?_, length_splice (by simpa using hk)⟩
  rw [← d, eh_]; omega
theorem delf (R : HP) (H : HH) (c : C) (l : List Int) (a b s : Nat) (now r tk last : Int) (rc qc : C) (hs : On [R, partP NI c l, pts a (.obj [vi now]), pts b (.map (.fro [.ptr s 0])), pts s (.obj [vb true, vi 1, vi r, vi tk, kids, rc, qc, vi last, vb false])] H) (hll : (l.length : Int) ≤ 1048577) (ht0 : 1 ≤ tk) (ht1 : tk ≤ 1048576) (hn0 : 0 ≤ now) (hn1 : now ≤ 4611686018427387903) : ∃ rs H', Runs pg an 23 [.one (c), .one (.fn (.func 24) [] [.ptr a 0, .ptr b 0])] H rs H' ∧ ∃ c', rs = [.one c'] ∧ On [R, partP NI c' (l.filter (keepB (now - tk))), pts a (.obj [vi now]), pts b (.map (.fro [.ptr s 0])), pts s (.obj [vb true, vi 1, vi r, vi tk, kids, rc, qc, vi last, vb false])] H' := by
 obtain ⟨rfl, hl3, hs1⟩ | ⟨k4, L5, rfl, hle6, hlt7, hs2⟩ := part_open hs 1 rfl
 ·
  have hl3n : (l.length : Int) = 0 := by rw [hl3]; rfl
  refine rOF Try.func23 rfl ?_
  refine rs0 [(0, .y (.one (nilC))), (1, .y (.one (.fn (.func 24) [] [.ptr a 0, .ptr b 0])))] ?_
  have hcall8 : Runs pg an 38 [.one (nilC), .one (.fn (.func 24) [] [.ptr a 0, .ptr b 0])] H [.one (vi (-1))] H := by
   refine runs_of ?_
   refine rOF Try.func38 rfl ?_
   refine rs0 [(0, .y (.one (nilC))), (1, .y (.one (.fn (.func 24) [] [.ptr a 0, .ptr b 0])))] ?_
   refine wS ?_
   refine rs0 [(0, .y (.one (nilC))), (1, .y (.one (.fn (.func 24) [] [.ptr a 0, .ptr b 0]))), (7, xi 0), (8, xi 0)] ?_
   refine wB ?_
   refine Wp.loopU [(0, .y (.one (nilC))), (1, .y (.one (.fn (.func 24) [] [.ptr a 0, .ptr b 0]))), (7, xi 0), (8, xi 0)] (some ([0, 1, 7, 8], false)) (List.length H) (by kernel_rfl) ?_
   refine WpL.step ?_
   refine rs0 [(0, .y (.one (nilC))), (1, .y (.one (.fn (.func 24) [] [.ptr a 0, .ptr b 0]))), (7, xi 0), (8, xi 0), (9, xb false)] ?_
   refine wS ?_
   refine wFa ?_
   refine wX ?_
   refine Eq.mpr (if_pos rfl) ?_
   refine rs0 [(4, xi (-1))] ?_
   refine wE ?_
   exact ⟨Or.inr rfl, [.one (vi (-1))], (by kernel_rfl), ⟨rfl, rfl⟩⟩
  refine rSz [(0, .y (.one (nilC))), (1, .y (.one (.fn (.func 24) [] [.ptr a 0, .ptr b 0]))), (5, xi (-1))] H (zL 2 (qC2 hcall8)) ?_
  refine wS ?_
  refine rs0 [(0, .y (.one (nilC))), (1, .y (.one (.fn (.func 24) [] [.ptr a 0, .ptr b 0]))), (5, xi (-1)), (12, xb true)] ?_
  refine wTa ?_
  refine rs0 [(4, .y (.one (nilC)))] ?_
  refine wE ?_
  refine ⟨Or.inr rfl, [.one (nilC)], (by kernel_rfl), ?_⟩
  have hs9 : On [R, pts a (.obj [vi now]), pts b (.map (.fro [.ptr s 0])), pts s (.obj [vb true, vi 1, vi r, vi tk, kids, rc, qc, vi last, vb false]), partP NI (nilC) (l.filter (keepB (now - tk)))] H := sH hs1 [] [0, 1, 2, 3] (fun _ _ => by rw [show (l.filter (keepB (now - tk))) = ([] : List Int) from by rw [hl3]; rfl]; exact part_nil)
  exact ⟨(nilC), rfl, (On.pick [0, 4, 1, 2, 3] [] (by kernel_rfl) hs9)⟩
 have hl10 : (L5.drop 0).take l.length = l := by rw [ec_]; exact hlt7
 refine rOF Try.func23 rfl ?_
 refine rs0 [(0, .y (.one (rowC k4 0 L5.length 0 l.length false))), (1, .y (.one (.fn (.func 24) [] [.ptr a 0, .ptr b 0])))] ?_
 obtain ⟨_, H19, hr20, ⟨hz11, rfl, hs21⟩ | ⟨i17, x18, hz11, hz12, hz13, hz14, hz15, rfl, hs21⟩⟩ := idxf _ (H : HH) (On.call [4, 1, 2, 3] [0] (by kernel_rfl) hs2) (k := k4) (L := L5) (l := l) (a := a) (b := b) (s := s) (now := now) (r := r) (tk := tk) (last := last) (rc := rc) (qc := qc) hle6 hlt7 (by omega) (by omega) (by omega) (by omega) (by omega)
 ·
  have hs22 : On [R, pts k4 (rowO NI true 0 L5), pts a (.obj [vi now]), pts b (.map (.fro [.ptr s 0])), pts s (.obj [vb true, vi 1, vi r, vi tk, kids, rc, qc, vi last, vb false])] H19 := On.flat hs21
  refine rGz [(0, .y (.one (rowC k4 0 L5.length 0 l.length false))), (1, .y (.one (.fn (.func 24) [] [.ptr a 0, .ptr b 0]))), (5, xi (-1))] hs22 (zL 2 (qC2 hr20)) fun H23 hs24 => ?_
  refine wS ?_
  refine rs0 [(0, .y (.one (rowC k4 0 L5.length 0 l.length false))), (1, .y (.one (.fn (.func 24) [] [.ptr a 0, .ptr b 0]))), (5, xi (-1)), (12, xb true)] ?_
  refine wTa ?_
  refine rs0 [(4, .y (.one (rowC k4 0 L5.length 0 l.length false)))] ?_
  refine wE ?_
  refine ⟨Or.inr rfl, [.one (rowC k4 0 L5.length 0 l.length false)], (by kernel_rfl), ?_⟩
  have hs25 : On [R, pts a (.obj [vi now]), pts b (.map (.fro [.ptr s 0])), pts s (.obj [vb true, vi 1, vi r, vi tk, kids, rc, qc, vi last, vb false]), partP NI (rowC k4 0 L5.length 0 l.length false) (l.filter (keepB (now - tk)))] H23 := sH hs24 [1] [0, 2, 3, 4] (fun _ x => part_row (by rw [hz11]) (by omega) (by rw [hz11]; exact hlt7) x)
  exact ⟨(rowC k4 0 L5.length 0 l.length false), rfl, (On.pick [0, 4, 1, 2, 3] [] (by kernel_rfl) hs25)⟩
 have hs26 : On [R, pts k4 (rowO NI true 0 L5), pts a (.obj [vi now]), pts b (.map (.fro [.ptr s 0])), pts s (.obj [vb true, vi 1, vi r, vi tk, kids, rc, qc, vi last, vb false])] H19 := On.flat hs21
 refine rGz [(0, .y (.one (rowC k4 0 L5.length 0 l.length false))), (1, .y (.one (.fn (.func 24) [] [.ptr a 0, .ptr b 0]))), (5, xi i17)] hs26 (zL 2 (qC2 hr20)) fun H27 hs28 => ?_
 refine wS ?_
 refine rSz [(0, .y (.one (rowC k4 0 L5.length 0 l.length false))), (1, .y (.one (.fn (.func 24) [] [.ptr a 0, .ptr b 0]))), (5, xi i17), (12, xb false)] H27 (zL 1 (Jj (vals := [xi i17, xi (-1)]) (H := H27) (op := .binOp .eql 3 (.tmp 0) (.tmp 1) 3) (ty := 0) (r := xb ((i17 : Int) == (-1))) (v := xb false) (by kernel_rfl) (congrArg (fun z => xb z) (beq_f (by omega))))) ?_
 refine wFk ?_
 refine wS ?_
 refine rSz [(0, .y (.one (rowC k4 0 L5.length 0 l.length false))), (1, .y (.one (.fn (.func 24) [] [.ptr a 0, .ptr b 0]))), (5, xi i17), (6, xi (i17 + 1))] H27 (zL 1 (qoAdd H27 i17 1 (i17 + 1))) ?_
 refine wB ?_
 refine Wp.loop (T := HH × Int × Int × List Int) (fun t => match t with | (H30, i, j, M) => (((l.length : Int) - j).toNat : Nat)) (fun t => match t with | (H30, i, j, M) => ([(0, .y (.one (rowC k4 0 M.length 0 l.length false))), (1, .y (.one (.fn (.func 24) [] [.ptr a 0, .ptr b 0]))), (5, xi i), (6, xi j)] : Env)) (fun t => match t with | (H30, i, j, M) => (H30 : HH))
   (fun t => match t with | (H30, i, j, M) => (On [R, pts a (.obj [vi now]), pts b (.map (.fro [.ptr s 0])), pts s (.obj [vb true, vi 1, vi r, vi tk, kids, rc, qc, vi last, vb false]), pts k4 (rowO NI true 0 M)] H30 ∧ (Moved (now - tk) l (M.take l.length) i j) ∧ (0 ≤ i ∧ i < j ∧ j ≤ (l.length : Int)) ∧ ((M.length : Int) = L5.length) : Prop)) (H27, i17, (i17 + 1), L5) (by kernel_rfl) (⟨(On.pick [0, 2, 3, 4, 1] [] (by kernel_rfl) hs28), (by rw [hlt7]; exact Moved.start hz11 hz13 hz14 hz15), by omega, rfl⟩) ?_
 rintro ⟨H30, i, j, M⟩ ⟨hs31, g1, g2, g3⟩
 show Wp _ _ _ _ [(0, .y (.one (rowC k4 0 M.length 0 l.length false))), (1, .y (.one (.fn (.func 24) [] [.ptr a 0, .ptr b 0]))), (5, xi i), (6, xi j)] H30 _
 refine wS ?_
 by_cases c32 : (j : Int) < (l.length : Int)
 ·
  refine rSz [(0, .y (.one (rowC k4 0 M.length 0 l.length false))), (1, .y (.one (.fn (.func 24) [] [.ptr a 0, .ptr b 0]))), (5, xi i), (6, xi j), (19, xb true)] H30 (zA 2 (Jc (H := H30) (s := NI) (t := 22) (ty := 0) (pu := true) (capd := false) (id := k4) (d := 0) (o := 0) (n := l.length) (l := M) (e := (l.length : Int)) (On.at hs31 4 rfl) (by kernel_rfl) (by first | rfl | omega | (simp only [ek_]; omega) | (simp; done) | (simp; omega))) (zL 3 (qlssT H30 j (l.length : Int)))) ?_
  refine wTk ?_
  refine wS (wB ?_)
  obtain ⟨x33, hx33⟩ : ∃ x : Int, (M.take l.length)[(j : Int).toNat]? = some x := get_of (by first | rfl | omega | (simp only [ek_]; omega) | (simp; done) | (simp; omega))
  refine rSz [(0, .y (.one (rowC k4 0 M.length 0 l.length false))), (1, .y (.one (.fn (.func 24) [] [.ptr a 0, .ptr b 0]))), (5, xi i), (6, xi j), (7, xi x33)] H30 (zA 2 (Ja (H := H30) (s := NI) (t := 22) (el := 3) (ty := 0) (pu := true) (capd := false) (id := k4) (d := 0) (o := 0) (n := l.length) (j := ((j : Int).toNat)) (l := M) (i := j) (On.at hs31 4 rfl) Try.underlying22 (by kernel_rfl) (by omega) (by first | rfl | omega | (simp only [ek_]; omega) | (simp; done) | (simp; omega)) (by first | rfl | omega | (simp only [ek_]; omega) | (simp; done) | (simp; omega)) (by first | rfl | omega | (simp only [ek_]; omega) | (simp; done) | (simp; omega))) (zL 3 (Jb (H := H30) (s := NI) (t := 3) (ty := 0) (pu := true) (id := k4) (d := 0) (j := ((j : Int).toNat)) (o := 0) (n := 1) (l := M) (x := x33) (v := .one (vi x33)) (On.at hs31 4 rfl) (by kernel_rfl) (by kernel_rfl) (of_content (L := M) (o := 0) (n := l.length) (rfl) hx33 (by first | rfl | omega | (simp only [ek_]; omega) | (simp; done) | (simp; omega))) (by kernel_rfl)))) ?_
  by_cases c35 : (x33 : Int) < (now - tk)
  ·
   have hcall36 : Runs pg an 24 [.one (vi x33), .one (.ptr a 0), .one (.ptr b 0)] H30 [.one (vb true)] H30 := by
    refine runs_of ?_
    refine rOF Try.func24 rfl ?_
    refine rs0 [(0, xi x33), (1, yp a), (2, yp b)] ?_
    refine rSz [(4, xb true)] H30 (zA 1 (qL 3 0 (.one (vi now)) (On.at hs31 1 rfl)) (zA 2 (ob_load_fro (P := pg) (A := an) (H := H30) (t := 27) (ty := 0) (id := b) (off := 0) (n := 1) (cs := [.ptr s 0]) (cs' := [.ptr s 0]) (v := .one (.ptr s 0)) (On.at hs31 2 rfl) (by kernel_rfl) (by kernel_rfl) (by kernel_rfl) (by kernel_rfl)) (zA 6 (qL 3 3 (.one (vi tk)) (On.at hs31 3 rfl)) (zA 7 (qoSub H30 now tk (now - tk)) (zL 8 (qlssT H30 x33 (now - tk))))))) ?_
    refine wE ?_
    exact ⟨Or.inr rfl, [.one (vb true)], (by kernel_rfl), ⟨rfl, rfl⟩⟩
   refine rSz [(0, .y (.one (rowC k4 0 M.length 0 l.length false))), (1, .y (.one (.fn (.func 24) [] [.ptr a 0, .ptr b 0]))), (5, xi i), (6, xi j), (7, xi x33), (29, xb false)] H30 (zL 2 (Jd (H := H30) (g := 24) (first := []) (cap := [.ptr a 0, .ptr b 0]) (vals := [xi x33]) (xs0 := [.one (vi x33)]) (res := [.one (vb true)]) (ats := #[]) (ty := 0) (v := xb true) (H' := (H30 : HH)) [.tmp 1] (by kernel_rfl) (by kernel_rfl) (by exact hcall36) (by kernel_rfl))) ?_
   refine wFk ?_
   refine rRz [(0, .y (.one (rowC k4 0 M.length 0 l.length false))), (1, .y (.one (.fn (.func 24) [] [.ptr a 0, .ptr b 0]))), (5, xi i), (6, xi (j + 1))] H30 (zL 1 (qoAdd H30 j 1 (j + 1))) ?_
   exact ⟨(H30, i, (j + 1), M), by kernel_rfl, (⟨(On.pick [0, 1, 2, 3, 4] [] (by kernel_rfl) hs31), Moved.skip g1 hx33 (by omega), by omega, by omega⟩), (by show (_ : Nat) < _; simp only []; omega)⟩
  have hcall37 : Runs pg an 24 [.one (vi x33), .one (.ptr a 0), .one (.ptr b 0)] H30 [.one (vb false)] H30 := by
   refine runs_of ?_
   refine rOF Try.func24 rfl ?_
   refine rs0 [(0, xi x33), (1, yp a), (2, yp b)] ?_
   refine rSz [(4, xb false)] H30 (zA 1 (qL 3 0 (.one (vi now)) (On.at hs31 1 rfl)) (zA 2 (ob_load_fro (P := pg) (A := an) (H := H30) (t := 27) (ty := 0) (id := b) (off := 0) (n := 1) (cs := [.ptr s 0]) (cs' := [.ptr s 0]) (v := .one (.ptr s 0)) (On.at hs31 2 rfl) (by kernel_rfl) (by kernel_rfl) (by kernel_rfl) (by kernel_rfl)) (zA 6 (qL 3 3 (.one (vi tk)) (On.at hs31 3 rfl)) (zA 7 (qoSub H30 now tk (now - tk)) (zL 8 (qlssF H30 x33 (now - tk))))))) ?_
   refine wE ?_
   exact ⟨Or.inr rfl, [.one (vb false)], (by kernel_rfl), ⟨rfl, rfl⟩⟩
  refine rSz [(0, .y (.one (rowC k4 0 M.length 0 l.length false))), (1, .y (.one (.fn (.func 24) [] [.ptr a 0, .ptr b 0]))), (5, xi i), (6, xi j), (7, xi x33), (29, xb true)] H30 (zL 2 (Jd (H := H30) (g := 24) (first := []) (cap := [.ptr a 0, .ptr b 0]) (vals := [xi x33]) (xs0 := [.one (vi x33)]) (res := [.one (vb false)]) (ats := #[]) (ty := 0) (v := xb false) (H' := (H30 : HH)) [.tmp 1] (by kernel_rfl) (by kernel_rfl) (by exact hcall37) (by kernel_rfl))) ?_
  refine wTa ?_
  obtain ⟨x38, hx38⟩ : ∃ x : Int, (M.take l.length)[(i : Int).toNat]? = some x := get_of (by first | rfl | omega | (simp only [ek_]; omega) | (simp; done) | (simp; omega))
  refine rSz [(0, .y (.one (rowC k4 0 M.length 0 l.length false))), (1, .y (.one (.fn (.func 24) [] [.ptr a 0, .ptr b 0]))), (5, xi i), (6, xi j)] (sto H30 k4 (.row true true 0 (0 + M.length) 1 ((M.set ((i : Int).toNat) x33).flatMap (enc NI)))) (zA 3 (Ja (H := H30) (s := NI) (t := 22) (el := 3) (ty := 0) (pu := true) (capd := false) (id := k4) (d := 0) (o := 0) (n := l.length) (j := ((i : Int).toNat)) (l := M) (i := i) (On.at hs31 4 rfl) Try.underlying22 (by kernel_rfl) (by omega) (by first | rfl | omega | (simp only [ek_]; omega) | (simp; done) | (simp; omega)) (by first | rfl | omega | (simp only [ek_]; omega) | (simp; done) | (simp; omega)) (by first | rfl | omega | (simp only [ek_]; omega) | (simp; done) | (simp; omega))) (zL 4 (Jg (H := H30) (s := NI) (t := 3) (ty := 0) (pu := true) (id := k4) (d := 0) (j := ((i : Int).toNat)) (o := 0) (l := M) (x := x38) (x' := x33) (v := .one (vi x33)) (On.at hs31 4 rfl) (by kernel_rfl) (of_content (L := M) (o := 0) (n := l.length) (rfl) hx38 (by first | rfl | omega | (simp only [ek_]; omega) | (simp; done) | (simp; omega))) (by kernel_rfl) (by kernel_rfl) (by kernel_rfl) (by kernel_rfl)))) ?_
  have hrl40 : M.length = (M.set ((i : Int).toNat) x33).length := List.length_set.symm
  refine Eq.mpr (congrArg (fun z : Nat => Wp _ _ _ _ [(0, .y (.one (rowC k4 0 z 0 l.length false))), (1, .y (.one (.fn (.func 24) [] [.ptr a 0, .ptr b 0]))), (5, xi i), (6, xi j)] (sto H30 k4 (.row true true 0 (0 + z) 1 ((M.set ((i : Int).toNat) x33).flatMap (enc NI)))) _) hrl40) ?_
  refine wG (Eq.mp (congrArg (fun z : Nat => On [R, pts a (.obj [vi now]), pts b (.map (.fro [.ptr s 0])), pts s (.obj [vb true, vi 1, vi r, vi tk, kids, rc, qc, vi last, vb false]), pts k4 (.row true true 0 (0 + z) 1 ((M.set ((i : Int).toNat) x33).flatMap (enc NI)))] (sto H30 k4 (.row true true 0 (0 + z) 1 ((M.set ((i : Int).toNat) x33).flatMap (enc NI))))) hrl40) (On.put (.row true true 0 (0 + M.length) 1 ((M.set ((i : Int).toNat) x33).flatMap (enc NI))) hs31 4 rfl)) fun H41 hs42 => ?_
  refine rRz [(0, .y (.one (rowC k4 0 (M.set ((i : Int).toNat) x33).length 0 l.length false))), (1, .y (.one (.fn (.func 24) [] [.ptr a 0, .ptr b 0]))), (5, xi (i + 1)), (6, xi j)] H41 (zL 1 (qoAdd H41 i 1 (i + 1))) ?_
  refine rRz [(0, .y (.one (rowC k4 0 (M.set ((i : Int).toNat) x33).length 0 l.length false))), (1, .y (.one (.fn (.func 24) [] [.ptr a 0, .ptr b 0]))), (5, xi (i + 1)), (6, xi (j + 1))] H41 (zL 1 (qoAdd H41 j 1 (j + 1))) ?_
  exact ⟨(H41, (i + 1), (j + 1), (M.set ((i : Int).toNat) x33)), by kernel_rfl, (⟨(On.pick [0, 1, 2, 3, 4] [] (by kernel_rfl) hs42), (by have := Moved.move g1 hx33 (by omega); rwa [← List.take_set] at this), by omega, by simp only [List.length_set]; omega⟩), (by show (_ : Nat) < _; simp only []; omega)⟩
 refine rSz [(0, .y (.one (rowC k4 0 M.length 0 l.length false))), (1, .y (.one (.fn (.func 24) [] [.ptr a 0, .ptr b 0]))), (5, xi i), (6, xi j), (19, xb false)] H30 (zA 2 (Jc (H := H30) (s := NI) (t := 22) (ty := 0) (pu := true) (capd := false) (id := k4) (d := 0) (o := 0) (n := l.length) (l := M) (e := (l.length : Int)) (On.at hs31 4 rfl) (by kernel_rfl) (by first | rfl | omega | (simp only [ek_]; omega) | (simp; done) | (simp; omega))) (zL 3 (qlssF H30 j (l.length : Int)))) ?_
 refine wFa ?_
 refine wX ?_
 refine Eq.mpr (if_pos rfl) ?_
 have hlfz43 : (((M.take l.length).drop ((i : Int).toNat)).length : Int) = ((l.length : Int) - i) := by { first | rfl | omega | (simp only [ek_]; omega) | (simp; done) | (simp; omega) }
 refine rSz [(0, .y (.one (rowC k4 0 M.length 0 l.length false))), (5, xi i)] (sto H30 k4 (.row true true 0 (0 + M.length) 1 ((splice ((i : Int).toNat) (List.replicate (((M.take l.length).drop ((i : Int).toNat)).length) 0) M).flatMap (enc NI)))) (zA 2 (Jq (H := H30) (s := NI) (t := 22) (el := 3) (ty := 0) (pu := true) (id := k4) (d := 0) (o := 0) (n := l.length) (l := M) (capd := false) (o' := ((i : Int).toNat)) (n' := (((M.take l.length).drop ((i : Int).toNat)).length)) (a := i) (On.at hs31 4 rfl) (by kernel_rfl) (by kernel_rfl) (by omega) (by first | rfl | omega | (simp only [ek_]; omega) | (simp; done) | (simp; omega)) (by first | rfl | omega | (simp only [ek_]; omega) | (simp; done) | (simp; omega)) (by first | rfl | omega | (simp only [ek_]; omega) | (simp; done) | (simp; omega)) (by first | rfl | omega | (simp only [ek_]; omega) | (simp; done) | (simp; omega))) (zL 3 (Jr (H := H30) (s := NI) (t := 22) (el := 3) (ty := 0) (id := k4) (o := ((i : Int).toNat)) (n := (((M.take l.length).drop ((i : Int).toNat)).length)) (l := M) (z := 0) (On.at hs31 4 rfl) (by kernel_rfl) (by kernel_rfl) (by kernel_rfl) (by kernel_rfl) (by omega) (by omega)))) ?_
 have hrl45 : M.length = (splice ((i : Int).toNat) (List.replicate (((M.take l.length).drop ((i : Int).toNat)).length) 0) M).length := (length_splice (by rw [List.length_replicate]; first | rfl | omega | (simp only [ek_]; omega) | (simp; done) | (simp; omega))).symm
 refine Eq.mpr (congrArg (fun z : Nat => Wp _ _ _ _ [(0, .y (.one (rowC k4 0 z 0 l.length false))), (5, xi i)] (sto H30 k4 (.row true true 0 (0 + z) 1 ((splice ((i : Int).toNat) (List.replicate (((M.take l.length).drop ((i : Int).toNat)).length) 0) M).flatMap (enc NI)))) _) hrl45) ?_
 refine wG (Eq.mp (congrArg (fun z : Nat => On [R, pts a (.obj [vi now]), pts b (.map (.fro [.ptr s 0])), pts s (.obj [vb true, vi 1, vi r, vi tk, kids, rc, qc, vi last, vb false]), pts k4 (.row true true 0 (0 + z) 1 ((splice ((i : Int).toNat) (List.replicate (((M.take l.length).drop ((i : Int).toNat)).length) 0) M).flatMap (enc NI)))] (sto H30 k4 (.row true true 0 (0 + z) 1 ((splice ((i : Int).toNat) (List.replicate (((M.take l.length).drop ((i : Int).toNat)).length) 0) M).flatMap (enc NI))))) hrl45) (On.put (.row true true 0 (0 + M.length) 1 ((splice ((i : Int).toNat) (List.replicate (((M.take l.length).drop ((i : Int).toNat)).length) 0) M).flatMap (enc NI))) hs31 4 rfl)) fun H46 hs47 => ?_
 have hlfz48 : (((((splice ((i : Int).toNat) (List.replicate (((M.take l.length).drop ((i : Int).toNat)).length) 0) M).drop 0).take l.length).take ((i : Int).toNat)).length : Int) = i := by { rw [eh_, eh_, ec_, length_splice (by rw [List.length_replicate, ei_, eh_]; omega)]; omega }
 refine rSz [(4, .y (.one (rowC k4 0 (splice ((i : Int).toNat) (List.replicate (((M.take l.length).drop ((i : Int).toNat)).length) 0) M).length 0 (((((splice ((i : Int).toNat) (List.replicate (((M.take l.length).drop ((i : Int).toNat)).length) 0) M).drop 0).take l.length).take ((i : Int).toNat)).length) false)))] H46 (zL 2 (Js (H := H46) (s := NI) (t := 22) (el := 3) (ty := 0) (pu := true) (id := k4) (d := 0) (o := 0) (n := l.length) (l := (splice ((i : Int).toNat) (List.replicate (((M.take l.length).drop ((i : Int).toNat)).length) 0) M)) (n' := (((((splice ((i : Int).toNat) (List.replicate (((M.take l.length).drop ((i : Int).toNat)).length) 0) M).drop 0).take l.length).take ((i : Int).toNat)).length)) (h := i) (On.at hs47 4 rfl) (by kernel_rfl) (by kernel_rfl) (by omega) (by first | rfl | omega | (simp only [ek_]; omega) | (simp; done) | (simp; omega)) (by first | rfl | omega | (simp only [ek_]; omega) | (simp; done) | (simp; omega)))) ?_
 refine wE ?_
 refine ⟨Or.inr rfl, [.one (rowC k4 0 (splice ((i : Int).toNat) (List.replicate (((M.take l.length).drop ((i : Int).toNat)).length) 0) M).length 0 (((((splice ((i : Int).toNat) (List.replicate (((M.take l.length).drop ((i : Int).toNat)).length) 0) M).drop 0).take l.length).take ((i : Int).toNat)).length) false)], (by kernel_rfl), ?_⟩
 obtain ⟨hd1, hd2, hd3⟩ := del_end (k := ((M.take l.length).drop ((i : Int).toNat)).length) g1 (by omega) (by omega) (by simp only [ei_, eh_]; omega)
 have hd4 : ((((splice ((i : Int).toNat) (List.replicate (((M.take l.length).drop ((i : Int).toNat)).length) 0) M).drop 0).take l.length).take ((i : Int).toNat)).length = i.toNat := by simp only [eh_, ec_, hd3]; omega
 have hs50 : On [R, pts a (.obj [vi now]), pts b (.map (.fro [.ptr s 0])), pts s (.obj [vb true, vi 1, vi r, vi tk, kids, rc, qc, vi last, vb false]), partP NI (rowC k4 0 (splice ((i : Int).toNat) (List.replicate (((M.take l.length).drop ((i : Int).toNat)).length) 0) M).length 0 (((((splice ((i : Int).toNat) (List.replicate (((M.take l.length).drop ((i : Int).toNat)).length) 0) M).drop 0).take l.length).take ((i : Int).toNat)).length) false) (l.filter (keepB (now - tk)))] H46 := sH hs47 [4] [0, 1, 2, 3] (fun _ x => part_row (by rw [hd4]; exact hd2) (by rw [hd4, hd3]; omega) (by rw [hd4]; exact hd1) x)
 exact ⟨(rowC k4 0 (splice ((i : Int).toNat) (List.replicate (((M.take l.length).drop ((i : Int).toNat)).length) 0) M).length 0 (((((splice ((i : Int).toNat) (List.replicate (((M.take l.length).drop ((i : Int).toNat)).length) 0) M).drop 0).take l.length).take ((i : Int).toNat)).length) false), rfl, (On.pick [0, 4, 1, 2, 3] [] (by kernel_rfl) hs50)⟩
end Go.Proofs.Ytbkdpmkjcoaapaa
