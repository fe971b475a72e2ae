/- Lemmas. -/
import Derived.Test.YtbkdpmkjcoaapaaR28SI
import Derived.Test.YtbkdpmkjcoaapaaR28SK
namespace Go.Proofs.Ytbkdpmkjcoaapaa
open Go.Lg
set_option linter.unusedVariables false
set_option maxRecDepth 100000
set_option maxHeartbeats 8000000
set_option linter.unusedSimpArgs false
theorem died (R : HP) (H : HH) (j : Int) (s rr : Nat) (c : C) (l : List Int) (r tk last now : Int) (hs : On [R, pts s (.obj [vb true, vi 1, vi r, vi tk, kids, rowC rr 0 ([true, true, true] : List Bool).length 0 (([true, true, true] : List Bool).length) false, c, vi last, vb false]), pts rr (rowO BB true 0 ([true, true, true] : List Bool)), partP NI c l] H) (hj : 0 ≤ j ∧ j ≤ 2) (hr0 : 0 ≤ r) (hr1 : r ≤ 64) (ht0 : 1 ≤ tk) (ht1 : tk ≤ 1048576) (hll : (l.length : Int) ≤ 1048576) (hn0 : 0 ≤ now) (hnl : last ≤ now) (hn1 : now ≤ 4611686018427387903) : ∃ rs H', Runs pg an 9 [.one (.ptr s 0), .one (vi j), .agg [vi 5, vi 0, .sc (.complex .f64 0 0), .sc (.string ⟨#[111, 111, 112, 115]⟩), vi 0, vi 0, nilC], .one (vi now)] H rs H' ∧ ((r < (((l.filter (keepB (now - tk))) ++ [now]).length : Int) ∧ ∃ ka c' A, 1 ≤ (A.length : Int) ∧ rs = [.one (rff ka A), .one (vi 0)] ∧ On [R, pts s (.obj [vb true, vi 1, vi r, vi tk, kids, rowC rr 0 ([false, false, false] : List Bool).length 0 (([false, false, false] : List Bool).length) false, c', vi now, vb true]), pts rr (rowO BB true 0 ([false, false, false] : List Bool)), partP NI c' ((l.filter (keepB (now - tk))) ++ [now]), pts ka (rowO AC true 0 A)] H') ∨ ((((l.filter (keepB (now - tk))) ++ [now]).length : Int) ≤ r ∧ ∃ ka c' A, 1 ≤ (A.length : Int) ∧ rs = [.one (rff ka A), .one (vi 0)] ∧ On [R, pts s (.obj [vb true, vi 1, vi r, vi tk, kids, rowC rr 0 ([true, true, true] : List Bool).length 0 (([true, true, true] : List Bool).length) false, c', vi now, vb false]), pts rr (rowO BB true 0 ([true, true, true] : List Bool)), partP NI c' ((l.filter (keepB (now - tk))) ++ [now]), pts ka (rowO AC true 0 A)] H')) := by
 rcases (show j = 0 ∨ j = 1 ∨ j = 2 by omega) with rfl | rfl | rfl
 · obtain ⟨rs, H2, h1, h2⟩ := died0 R H s rr c l r tk last now hs hr0 hr1 ht0 ht1 hll hn0 hnl hn1
   rcases h2 with ⟨a, ka, c2, e, h⟩ | ⟨a, ka, c2, e, h⟩
   · exact ⟨rs, H2, h1, .inl ⟨a, ka, c2, _, by decide, e, h⟩⟩
   · exact ⟨rs, H2, h1, .inr ⟨a, ka, c2, _, by decide, e, h⟩⟩
 · obtain ⟨rs, H2, h1, h2⟩ := died1 R H s rr c l r tk last now hs hr0 hr1 ht0 ht1 hll hn0 hnl hn1
   rcases h2 with ⟨a, ka, c2, e, h⟩ | ⟨a, ka, c2, e, h⟩
   · exact ⟨rs, H2, h1, .inl ⟨a, ka, c2, _, by decide, e, h⟩⟩
   · exact ⟨rs, H2, h1, .inr ⟨a, ka, c2, _, by decide, e, h⟩⟩
 · obtain ⟨rs, H2, h1, h2⟩ := died2 R H s rr c l r tk last now hs hr0 hr1 ht0 ht1 hll hn0 hnl hn1
   rcases h2 with ⟨a, ka, c2, e, h⟩ | ⟨a, ka, c2, e, h⟩
   · exact ⟨rs, H2, h1, .inl ⟨a, ka, c2, _, by decide, e, h⟩⟩
   · exact ⟨rs, H2, h1, .inr ⟨a, ka, c2, _, by decide, e, h⟩⟩
theorem keep_in {n tk x : Int} (h : n - x ≤ tk) : keepB (n - tk) x = true := decide_eq_true (by omega)
theorem keep_out {n tk x : Int} (h : ¬ n - x ≤ tk) : keepB (n - tk) x = false := decide_eq_false (by omega)
theorem keep_step {n n' tk : Int} {at_ : List Int} (h : n ≤ n') (ht : 1 ≤ tk) : (at_.filter (keepB (n - tk))).filter (keepB (n' - tk)) ++ [n'] = (at_ ++ [n']).filter (keepB (n' - tk)) := by
  rw [List.filter_append, List.filter_filter, show [n'].filter (keepB (n' - tk)) = [n'] by simp [keep_in (show n' - n' ≤ tk by omega)]]
  congr 2
  funext x
  simp only [keepB, Bool.and_eq_decide, decide_eq_true_eq, decide_eq_decide]
  omega
theorem in_step {n n' : Int} {at_ : List Int} (h : ∀ x ∈ at_, 0 ≤ x ∧ x ≤ n) (h0 : 0 ≤ n) (hn : n ≤ n') : ∀ x ∈ at_ ++ [n'], 0 ≤ x ∧ x ≤ n' := by
  intro x hx
  rcases List.mem_append.1 hx with hx | hx
  · have := h x hx; omega
  · simp at hx; subst hx; omega
theorem with_t {n tk x k w : Int} {l : List Int} (h0 : 0 ≤ k) (hw : w = (((l.take k.toNat).filter (keepB (n - tk))).length : Int)) (hx : l[k.toNat]? = some x) (hk : n - x ≤ tk) : w + 1 = (((l.take (k + 1).toNat).filter (keepB (n - tk))).length : Int) := by
  rw [show (k + 1).toNat = k.toNat + 1 by omega, List.take_add_one, hx, List.filter_append, hw]
  simp [keep_in hk]
theorem with_f {n tk x k w : Int} {l : List Int} (h0 : 0 ≤ k) (hw : w = (((l.take k.toNat).filter (keepB (n - tk))).length : Int)) (hx : l[k.toNat]? = some x) (hk : ¬ n - x ≤ tk) : w = (((l.take (k + 1).toNat).filter (keepB (n - tk))).length : Int) := by
  rw [show (k + 1).toNat = k.toNat + 1 by omega, List.take_add_one, hx, List.filter_append, hw]
  simp [keep_out hk]
theorem with_end {n tk k w : Int} {l : List Int} (hk : (l.length : Int) ≤ k) (hw : w = (((l.take k.toNat).filter (keepB (n - tk))).length : Int)) : w = ((l.filter (keepB (n - tk))).length : Int) := by
  rw [hw, List.take_of_length_le (by omega)]
theorem law_good (r tk : Int) (gn : Bool) (gl : List Int) (hr0 : 0 ≤ r) (hr1 : r ≤ 64) (ht0 : 1 ≤ tk) (ht1 : tk ≤ 1048576) (hgl : (gl.length : Int) ≤ 1048576)  : PureC pg an 3 [.one (vi r), .one (vi tk), .one (sv NI false gn gn gl)] [.one (vb true)] := by
 refine rOF Try.func3 rfl ?_
 refine rs0 [(0, xi r), (1, xi tk), (2, .y (.one (sv NI false gn gn gl)))] ?_
 obtain ⟨n1, hn1⟩ := lX []
 refine rGz [(0, xi r), (1, xi tk), (2, .y (.one (sv NI false gn gn gl))), (7, yp n1)] (On.put (.obj [vi 1, vi 1, vi 5, kids]) (On.new' hn1 (.obj [vi 0, vi 0, vi 0, nilC]) (On.nil [])) 0 rfl) (zA 0 (qP1 [] fn5) (zA 1 (qO 25 [vi 0, vi 0, vi 0, nilC] hn1) (zL 2 (qS 25 0 (.agg [vi 1, vi 1, vi 5, kids]) (On.at (On.new' hn1 (.obj [vi 0, vi 0, vi 0, nilC]) (On.nil [])) 0 rfl))))) fun H2 hs3 => ?_
 refine rGz [(0, xi r), (1, xi tk), (2, .y (.one (sv NI false gn gn gl))), (7, yp n1)] (On.put (.obj [vi 1, vi r, vi 5, kids]) hs3 0 rfl) (zL 2 (qS 3 1 (.one (vi r)) (On.at hs3 0 rfl))) fun H4 hs5 => ?_
 refine rGz [(0, xi r), (1, xi tk), (2, .y (.one (sv NI false gn gn gl))), (7, yp n1)] (On.put (.obj [vi 1, vi r, vi tk, kids]) hs5 0 rfl) (zL 2 (qS 3 2 (.one (vi tk)) (On.at hs5 0 rfl))) fun H6 hs7 => ?_
 obtain ⟨_, H12, hr13, ⟨s8, rr9, y10, c11, rfl, hs14⟩⟩ := newp _ (H6 : HH) (On.call [] [0] (by kernel_rfl) hs7) (r := r) (tk := tk) hr0 hr1 ht0 ht1
 have hs15 : On [pts n1 (.obj [vi 1, vi r, vi tk, kids]), pts s8 (.obj [vb true, vi 1, vi r, vi tk, kids, rowC rr9 0 ([true, true, true] : List Bool).length 0 (([true, true, true] : List Bool).length) false, c11, vi 0, vb false]), pts rr9 (rowO BB true 0 ([true, true, true] : List Bool)), partP NI c11 ([] : List Int)] H12 := On.flat hs14
 refine rGz [(0, xi r), (1, xi tk), (2, .y (.one (sv NI false gn gn gl))), (7, yp n1), (8, yp s8), (10, xi 0)] hs15 (zA 0 (qL 25 0 (.agg [vi 1, vi r, vi tk, kids]) (On.at hs7 0 rfl)) (zL 1 (qC1 hr13))) fun H16 hs17 => ?_
 refine wS ?_
 refine rs0 [(0, xi r), (1, xi tk), (2, .y (.one (sv NI false gn gn gl))), (7, yp n1), (8, yp s8), (10, xi 0), (37, xb false)] ?_
 refine wFk ?_
 refine rs0 [(0, xi r), (1, xi tk), (2, .y (.one (sv NI false gn gn gl))), (8, yp s8), (14, xi 0)] ?_
 refine rs0 [(0, xi r), (1, xi tk), (2, .y (.one (sv NI false gn gn gl))), (8, yp s8), (14, xi 0), (15, .y (.one (nilC)))] ?_
 refine wS ?_
 refine rs0 [(0, xi r), (1, xi tk), (2, .y (.one (sv NI false gn gn gl))), (8, yp s8), (14, xi 0), (15, .y (.one (nilC))), (16, xi 0)] ?_
 refine wB ?_
 have hs18 := On.addPart (s := NI) hs17
 refine Wp.loop (T := HH × Int × Int × C × C × List Int × List Int) (fun t => match t with | (H20, i, now, c, ca, l, at_) => (((gl.length : Int) - i).toNat : Nat)) (fun t => match t with | (H20, i, now, c, ca, l, at_) => ([(0, xi r), (1, xi tk), (2, .y (.one (sv NI false gn gn gl))), (8, yp s8), (14, xi now), (15, .y (.one (ca))), (16, xi i)] : Env)) (fun t => match t with | (H20, i, now, c, ca, l, at_) => (H20 : HH))
   (fun t => match t with | (H20, i, now, c, ca, l, at_) => (On [pts s8 (.obj [vb true, vi 1, vi r, vi tk, kids, rowC rr9 0 ([true, true, true] : List Bool).length 0 (([true, true, true] : List Bool).length) false, c, vi now, vb false]), pts rr9 (rowO BB true 0 ([true, true, true] : List Bool)), partP NI c l, partP NI ca at_] H20 ∧ (0 ≤ i ∧ i ≤ (gl.length : Int)) ∧ (0 ≤ now ∧ now ≤ i * 1048576) ∧ ((at_.length : Int) = i) ∧ (l = at_.filter (keepB (now - tk))) ∧ (∀ x ∈ at_, 0 ≤ x ∧ x ≤ now) ∧ ((l.length : Int) ≤ i) : Prop)) (H16, 0, 0, c11, (nilC), ([] : List Int), ([] : List Int)) (by kernel_rfl) (⟨(On.pick [1, 2, 3, 4] [0] (by kernel_rfl) hs18), by omega, by omega, rfl, rfl, by simp, by simp⟩) ?_
 rintro ⟨H20, i, now, c, ca, l, at_⟩ ⟨hs21, g1, g2, g3, g4, g5, g6⟩
 show Wp _ _ _ _ [(0, xi r), (1, xi tk), (2, .y (.one (sv NI false gn gn gl))), (8, yp s8), (14, xi now), (15, .y (.one (ca))), (16, xi i)] H20 _
 refine wS ?_
 by_cases c22 : (i : Int) < (gl.length : Int)
 ·
  refine rSz [(0, xi r), (1, xi tk), (2, .y (.one (sv NI false gn gn gl))), (8, yp s8), (14, xi now), (15, .y (.one (ca))), (16, xi i), (57, xb true)] H20 (zL 3 (qlssT H20 i (gl.length : Int))) ?_
  refine wTk ?_
  refine wS (wB ?_)
  refine wS ?_
  obtain ⟨x23, hx23⟩ : ∃ x, gl[(i : Int).toNat]? = some x := get_of (by omega)
  by_cases c24 : (x23 : Int) < 0
  ·
   refine rSz [(0, xi r), (1, xi tk), (2, .y (.one (sv NI false gn gn gl))), (8, yp s8), (14, xi now), (15, .y (.one (ca))), (16, xi i), (71, xb true)] H20 (zA 2 (Jm (H := H20) (s := NI) (b := false) (nil := gn) (capd := gn) (t := 22) (el := 3) (i := i) Try.underlying22 (by kernel_rfl) (by kernel_rfl) (by omega) hx23) (zL 4 (qlssT H20 x23 0))) ?_
   refine wTa ?_
   refine rSz [(6, xb true)] H20 (zL 0 (Jo (H := H20) (g := 8) (vals := []) (xs0 := []) (xs1 := []) (res := [.one (vb true)]) (ats := #[]) (ty := 0) (v := xb true) [] (by kernel_rfl) (by kernel_rfl) (snap_nil) fn8 (by kernel_rfl))) ?_
   refine wE ?_
   refine ⟨Or.inr rfl, [.one (vb true)], (by kernel_rfl), ?_⟩
   exact (by kernel_rfl)
  by_cases c25 : (1048576 : Int) < x23
  ·
   refine rSz [(0, xi r), (1, xi tk), (2, .y (.one (sv NI false gn gn gl))), (8, yp s8), (14, xi now), (15, .y (.one (ca))), (16, xi i), (71, xb true)] H20 (zA 2 (Jm (H := H20) (s := NI) (b := false) (nil := gn) (capd := gn) (t := 22) (el := 3) (i := i) Try.underlying22 (by kernel_rfl) (by kernel_rfl) (by omega) hx23) (zA 4 (qlssF H20 x23 0) (zA 8 (Jm (H := H20) (s := NI) (b := false) (nil := gn) (capd := gn) (t := 22) (el := 3) (i := i) Try.underlying22 (by kernel_rfl) (by kernel_rfl) (by omega) hx23) (zL 10 (qgtrT H20 x23 1048576))))) ?_
   refine wTa ?_
   refine rSz [(6, xb true)] H20 (zL 0 (Jo (H := H20) (g := 8) (vals := []) (xs0 := []) (xs1 := []) (res := [.one (vb true)]) (ats := #[]) (ty := 0) (v := xb true) [] (by kernel_rfl) (by kernel_rfl) (snap_nil) fn8 (by kernel_rfl))) ?_
   refine wE ?_
   refine ⟨Or.inr rfl, [.one (vb true)], (by kernel_rfl), ?_⟩
   exact (by kernel_rfl)
  refine rSz [(0, xi r), (1, xi tk), (2, .y (.one (sv NI false gn gn gl))), (8, yp s8), (14, xi now), (15, .y (.one (ca))), (16, xi i), (71, xb false)] H20 (zA 2 (Jm (H := H20) (s := NI) (b := false) (nil := gn) (capd := gn) (t := 22) (el := 3) (i := i) Try.underlying22 (by kernel_rfl) (by kernel_rfl) (by omega) hx23) (zA 4 (qlssF H20 x23 0) (zA 8 (Jm (H := H20) (s := NI) (b := false) (nil := gn) (capd := gn) (t := 22) (el := 3) (i := i) Try.underlying22 (by kernel_rfl) (by kernel_rfl) (by omega) hx23) (zL 10 (qgtrF H20 x23 1048576))))) ?_
  refine wFk ?_
  refine rSz [(0, xi r), (1, xi tk), (2, .y (.one (sv NI false gn gn gl))), (8, yp s8), (14, xi (now + x23)), (15, .y (.one (ca))), (16, xi i)] H20 (zA 3 (Jm (H := H20) (s := NI) (b := false) (nil := gn) (capd := gn) (t := 22) (el := 3) (i := i) Try.underlying22 (by kernel_rfl) (by kernel_rfl) (by omega) hx23) (zL 5 (qoAdd H20 now x23 (now + x23)))) ?_
  obtain ⟨_, H36, hr37, ⟨hq29, ka26, c27, A28, hA30, rfl, hs38⟩ | ⟨hq34, ka31, c32, A33, hA35, rfl, hs38⟩⟩ := died _ (H20 : HH) (On.call [0, 1, 2] [3] (by kernel_rfl) hs21) (s := s8) (rr := rr9) (c := c) (l := l) (r := r) (tk := tk) (last := now) (now := (now + x23)) (j := (i % 3)) (by omega) hr0 hr1 ht0 ht1 (by omega) (by omega) (by omega) (by omega)
  ·
   have hs39 : On [partP NI ca at_, pts s8 (.obj [vb true, vi 1, vi r, vi tk, kids, rowC rr9 0 ([false, false, false] : List Bool).length 0 (([false, false, false] : List Bool).length) false, c27, vi (now + x23), vb true]), pts rr9 (rowO BB true 0 ([false, false, false] : List Bool)), partP NI c27 ((l.filter (keepB ((now + x23) - tk))) ++ [(now + x23)]), pts ka26 (rowO AC true 0 A28)] H36 := On.flat hs38
   have hfa : ((((l.filter (keepB ((now + x23) - tk))) ++ [(now + x23)]).length : Nat) : Int) = (((l.filter (keepB ((now + x23) - tk))).length : Nat) : Int) + 1 := by simp
   have hfb : (((l.filter (keepB ((now + x23) - tk))).length : Nat) : Int) ≤ (l.length : Int) := by have := List.length_filter_le (keepB ((now + x23) - tk)) l; omega
   refine rGz [(0, xi r), (1, xi tk), (2, .y (.one (sv NI false gn gn gl))), (8, yp s8), (14, xi (now + x23)), (15, .y (.one (ca))), (16, xi i), (17, .y (.one (rff ka26 A28))), (18, xi 0)] hs39 (zA 2 (Jj (vals := [xi i, xi 3]) (H := H20) (op := .binOp .rem 3 (.tmp 0) (.tmp 1) 3) (ty := 0) (r := xi (Int.tmod i 3)) (v := xi (i % 3)) (by kernel_rfl) (congrArg (fun z => xi z) (Int.tmod_eq_emod_of_nonneg (by omega)))) (zA 3 (qP1 H20 fn10) (zL 5 (Jn (H := H20) (g := 9) (vals := [yp s8, xi (i % 3), .y (.agg [vi 5, vi 0, .sc (.complex .f64 0 0), .sc (.string ⟨#[111, 111, 112, 115]⟩), vi 0, vi 0, nilC]), xi (now + x23)]) (xs0 := [.one (.ptr s8 0), .one (vi (i % 3)), .agg [vi 5, vi 0, .sc (.complex .f64 0 0), .sc (.string ⟨#[111, 111, 112, 115]⟩), vi 0, vi 0, nilC], .one (vi (now + x23))]) (res := [.one (rff ka26 A28), .one (vi 0)]) (ats := #[]) (ty := 0) (v := .tup [.one (rff ka26 A28), .one (vi 0)]) (H' := H36) [.tmp 0, .tmp 1, .tmp 2, .tmp 3] (by kernel_rfl) (by kernel_rfl) hr37 (by kernel_rfl))))) fun H40 hs41 => ?_
   obtain ⟨cv42, H43, ho44, hs45⟩ := or_append_part (P := pg) (A := an) (s := NI) (t := 22) (u := 22) (el := 3) (by_ := 8) (z := [vi 0]) (ty := 0) (y := .sl false false true [vi (now + x23)] 1) (x := (now + x23)) hs41 0 rfl ((slCells_slO (H := H40) (s := NI) (b := false) (nil := false) (capd := true) (l := [(now + x23)]) (n := 1) (by first | rfl | omega | (simp only [ek_]; omega) | (simp; done) | (simp; omega)))) (by kernel_rfl) (by kernel_rfl) (by kernel_rfl) (by kernel_rfl) (by kernel_rfl) (by kernel_rfl) (by kernel_rfl) (by omega) (by omega)
   have hs45l : ((at_ ++ [(now + x23)]).length : Int) = ((at_.length : Int) + 1) := by { first | omega | (simp only [ej_]; omega) | (simp; done) | (simp; omega) }
   refine rGz [(0, xi r), (1, xi tk), (2, .y (.one (sv NI false gn gn gl))), (8, yp s8), (14, xi (now + x23)), (15, .y (.one (cv42))), (16, xi i), (17, .y (.one (rff ka26 A28))), (18, xi 0)] hs45 (zL 3 ho44) fun H46 hs47 => ?_
   refine rs0 [(0, xi r), (1, xi tk), (2, .y (.one (sv NI false gn gn gl))), (8, yp s8), (14, xi (now + x23)), (15, .y (.one (cv42))), (16, xi i), (17, .y (.one (rff ka26 A28))), (18, xi 0), (19, xi 0)] ?_
   refine wS ?_
   refine rs0 [(0, xi r), (1, xi tk), (2, .y (.one (sv NI false gn gn gl))), (8, yp s8), (14, xi (now + x23)), (15, .y (.one (cv42))), (16, xi i), (17, .y (.one (rff ka26 A28))), (18, xi 0), (19, xi 0), (20, xi 0)] ?_
   refine wB ?_
   obtain ⟨rfl, hl50, hs48⟩ | ⟨k51, L52, rfl, hle53, hlt54, hs49⟩ := part_open hs47 4 rfl
   ·
    have hl50n : ((at_ ++ [(now + x23)]).length : Int) = 0 := by rw [hl50]; rfl
    exfalso; omega
   have hl55 : (L52.drop 0).take (at_ ++ [(now + x23)]).length = (at_ ++ [(now + x23)]) := by rw [ec_]; exact hlt54
   refine Wp.loop (T := HH × Int × Int) (fun t => match t with | (H57, k, w) => ((((at_ ++ [(now + x23)]).length : Int) - k).toNat : Nat)) (fun t => match t with | (H57, k, w) => ([(0, xi r), (1, xi tk), (2, .y (.one (sv NI false gn gn gl))), (8, yp s8), (14, xi (now + x23)), (15, .y (.one (rowC k51 0 L52.length 0 ((at_ ++ [(now + x23)]).length) false))), (16, xi i), (17, .y (.one (rff ka26 A28))), (18, xi 0), (19, xi w), (20, xi k)] : Env)) (fun t => match t with | (H57, k, w) => (H57 : HH))
     (fun t => match t with | (H57, k, w) => (On [pts s8 (.obj [vb true, vi 1, vi r, vi tk, kids, rowC rr9 0 ([false, false, false] : List Bool).length 0 (([false, false, false] : List Bool).length) false, c27, vi (now + x23), vb true]), pts rr9 (rowO BB true 0 ([false, false, false] : List Bool)), partP NI c27 ((l.filter (keepB ((now + x23) - tk))) ++ [(now + x23)]), pts ka26 (rowO AC true 0 A28), pts k51 (rowO NI true 0 L52)] H57 ∧ (0 ≤ k ∧ k ≤ ((at_ ++ [(now + x23)]).length : Int)) ∧ (w = ((((at_ ++ [(now + x23)]).take k.toNat).filter (keepB ((now + x23) - tk))).length : Int)) ∧ (0 ≤ w ∧ w ≤ k) : Prop)) (H46, 0, 0) (by kernel_rfl) (⟨(On.pick [0, 1, 2, 3, 4] [] (by kernel_rfl) hs49), by omega, by simp, by omega⟩) ?_
   rintro ⟨H57, k, w⟩ ⟨hs58, h1, h2, h3⟩
   show Wp _ _ _ _ [(0, xi r), (1, xi tk), (2, .y (.one (sv NI false gn gn gl))), (8, yp s8), (14, xi (now + x23)), (15, .y (.one (rowC k51 0 L52.length 0 ((at_ ++ [(now + x23)]).length) false))), (16, xi i), (17, .y (.one (rff ka26 A28))), (18, xi 0), (19, xi w), (20, xi k)] H57 _
   refine wS ?_
   by_cases c59 : (k : Int) < ((at_ ++ [(now + x23)]).length : Int)
   ·
    refine rSz [(0, xi r), (1, xi tk), (2, .y (.one (sv NI false gn gn gl))), (8, yp s8), (14, xi (now + x23)), (15, .y (.one (rowC k51 0 L52.length 0 ((at_ ++ [(now + x23)]).length) false))), (16, xi i), (17, .y (.one (rff ka26 A28))), (18, xi 0), (19, xi w), (20, xi k), (95, xb true)] H57 (zA 2 (Jc (H := H57) (s := NI) (t := 22) (ty := 0) (pu := true) (capd := false) (id := k51) (d := 0) (o := 0) (n := ((at_ ++ [(now + x23)]).length)) (l := L52) (e := ((at_ ++ [(now + x23)]).length : Int)) (On.at hs58 4 rfl) (by kernel_rfl) (by first | rfl | omega | (simp only [ek_]; omega) | (simp; done) | (simp; omega))) (zL 3 (qlssT H57 k ((at_ ++ [(now + x23)]).length : Int)))) ?_
    refine wTk ?_
    refine wS (wB ?_)
    obtain ⟨x60, hx60⟩ : ∃ x : Int, (at_ ++ [(now + x23)])[(k : Int).toNat]? = some x := get_of (by first | rfl | omega | (simp only [ek_]; omega) | (simp; done) | (simp; omega))
    have hbx60 := in_step g5 (by omega) (by omega) x60 (List.mem_of_getElem? hx60)
    by_cases c61 : ((now + x23 - x60) : Int) ≤ tk
    ·
     refine rSz [(0, xi r), (1, xi tk), (2, .y (.one (sv NI false gn gn gl))), (8, yp s8), (14, xi (now + x23)), (15, .y (.one (rowC k51 0 L52.length 0 ((at_ ++ [(now + x23)]).length) false))), (16, xi i), (17, .y (.one (rff ka26 A28))), (18, xi 0), (19, xi w), (20, xi k), (105, xb true)] H57 (zA 3 (Ja (H := H57) (s := NI) (t := 22) (el := 3) (ty := 0) (pu := true) (capd := false) (id := k51) (d := 0) (o := 0) (n := ((at_ ++ [(now + x23)]).length)) (j := ((k : Int).toNat)) (l := L52) (i := k) (On.at hs58 4 rfl) Try.underlying22 (by kernel_rfl) (by omega) (by first | rfl | omega | (simp only [ek_]; omega) | (simp; done) | (simp; omega)) (by first | rfl | omega | (simp only [ek_]; omega) | (simp; done) | (simp; omega)) (by first | rfl | omega | (simp only [ek_]; omega) | (simp; done) | (simp; omega))) (zA 4 (Jb (H := H57) (s := NI) (t := 3) (ty := 0) (pu := true) (id := k51) (d := 0) (j := ((k : Int).toNat)) (o := 0) (n := 1) (l := L52) (x := x60) (v := .one (vi x60)) (On.at hs58 4 rfl) (by kernel_rfl) (by kernel_rfl) (of_content (L := L52) (o := 0) (n := ((at_ ++ [(now + x23)]).length)) (hl55) hx60 (by first | rfl | omega | (simp only [ek_]; omega) | (simp; done) | (simp; omega))) (by kernel_rfl)) (zA 5 (qoSub H57 (now + x23) x60 (now + x23 - x60)) (zL 7 (qleqT H57 (now + x23 - x60) tk))))) ?_
     refine wTa ?_
     refine rRz [(0, xi r), (1, xi tk), (2, .y (.one (sv NI false gn gn gl))), (8, yp s8), (14, xi (now + x23)), (15, .y (.one (rowC k51 0 L52.length 0 ((at_ ++ [(now + x23)]).length) false))), (16, xi i), (17, .y (.one (rff ka26 A28))), (18, xi 0), (19, xi (w + 1)), (20, xi k)] H57 (zL 1 (qoAdd H57 w 1 (w + 1))) ?_
     refine rRz [(0, xi r), (1, xi tk), (2, .y (.one (sv NI false gn gn gl))), (8, yp s8), (14, xi (now + x23)), (15, .y (.one (rowC k51 0 L52.length 0 ((at_ ++ [(now + x23)]).length) false))), (16, xi i), (17, .y (.one (rff ka26 A28))), (18, xi 0), (19, xi (w + 1)), (20, xi (k + 1))] H57 (zL 1 (qoAdd H57 k 1 (k + 1))) ?_
     exact ⟨(H57, (k + 1), (w + 1)), by kernel_rfl, (⟨(On.pick [0, 1, 2, 3, 4] [] (by kernel_rfl) hs58), by omega, with_t (by omega) h2 hx60 (by omega), by omega⟩), (by show (_ : Nat) < _; simp only []; omega)⟩
    refine rSz [(0, xi r), (1, xi tk), (2, .y (.one (sv NI false gn gn gl))), (8, yp s8), (14, xi (now + x23)), (15, .y (.one (rowC k51 0 L52.length 0 ((at_ ++ [(now + x23)]).length) false))), (16, xi i), (17, .y (.one (rff ka26 A28))), (18, xi 0), (19, xi w), (20, xi k), (105, xb false)] H57 (zA 3 (Ja (H := H57) (s := NI) (t := 22) (el := 3) (ty := 0) (pu := true) (capd := false) (id := k51) (d := 0) (o := 0) (n := ((at_ ++ [(now + x23)]).length)) (j := ((k : Int).toNat)) (l := L52) (i := k) (On.at hs58 4 rfl) Try.underlying22 (by kernel_rfl) (by omega) (by first | rfl | omega | (simp only [ek_]; omega) | (simp; done) | (simp; omega)) (by first | rfl | omega | (simp only [ek_]; omega) | (simp; done) | (simp; omega)) (by first | rfl | omega | (simp only [ek_]; omega) | (simp; done) | (simp; omega))) (zA 4 (Jb (H := H57) (s := NI) (t := 3) (ty := 0) (pu := true) (id := k51) (d := 0) (j := ((k : Int).toNat)) (o := 0) (n := 1) (l := L52) (x := x60) (v := .one (vi x60)) (On.at hs58 4 rfl) (by kernel_rfl) (by kernel_rfl) (of_content (L := L52) (o := 0) (n := ((at_ ++ [(now + x23)]).length)) (hl55) hx60 (by first | rfl | omega | (simp only [ek_]; omega) | (simp; done) | (simp; omega))) (by kernel_rfl)) (zA 5 (qoSub H57 (now + x23) x60 (now + x23 - x60)) (zL 7 (qleqF H57 (now + x23 - x60) tk))))) ?_
    refine wFk ?_
    refine rRz [(0, xi r), (1, xi tk), (2, .y (.one (sv NI false gn gn gl))), (8, yp s8), (14, xi (now + x23)), (15, .y (.one (rowC k51 0 L52.length 0 ((at_ ++ [(now + x23)]).length) false))), (16, xi i), (17, .y (.one (rff ka26 A28))), (18, xi 0), (19, xi w), (20, xi (k + 1))] H57 (zL 1 (qoAdd H57 k 1 (k + 1))) ?_
    exact ⟨(H57, (k + 1), w), by kernel_rfl, (⟨(On.pick [0, 1, 2, 3, 4] [] (by kernel_rfl) hs58), by omega, with_f (by omega) h2 hx60 (by omega), by omega⟩), (by show (_ : Nat) < _; simp only []; omega)⟩
   refine rSz [(0, xi r), (1, xi tk), (2, .y (.one (sv NI false gn gn gl))), (8, yp s8), (14, xi (now + x23)), (15, .y (.one (rowC k51 0 L52.length 0 ((at_ ++ [(now + x23)]).length) false))), (16, xi i), (17, .y (.one (rff ka26 A28))), (18, xi 0), (19, xi w), (20, xi k), (95, xb false)] H57 (zA 2 (Jc (H := H57) (s := NI) (t := 22) (ty := 0) (pu := true) (capd := false) (id := k51) (d := 0) (o := 0) (n := ((at_ ++ [(now + x23)]).length)) (l := L52) (e := ((at_ ++ [(now + x23)]).length : Int)) (On.at hs58 4 rfl) (by kernel_rfl) (by first | rfl | omega | (simp only [ek_]; omega) | (simp; done) | (simp; omega))) (zL 3 (qlssF H57 k ((at_ ++ [(now + x23)]).length : Int)))) ?_
   refine wFa ?_
   refine wX ?_
   have hw : w = ((((l.filter (keepB ((now + x23) - tk))) ++ [(now + x23)]).length : Nat) : Int) := by rw [show ((l.filter (keepB ((now + x23) - tk))) ++ [(now + x23)]) = (at_ ++ [(now + x23)]).filter (keepB ((now + x23) - tk)) from (by rw [g4]; exact keep_step (by omega) (by omega))]; exact with_end (by omega) h2
   refine Eq.mpr (if_pos rfl) ?_
   refine wS ?_
   have hcall62 : Runs pg an 11 [.one (.ptr s8 0)] H57 [.one (vb true)] H57 := by
    refine runs_of ?_
    refine rOF Try.func11 rfl ?_
    refine rs0 [(0, yp s8)] ?_
    have hcall63 : Runs pg an 20 [.one (.ptr s8 0)] H57 [.one (vb true)] H57 := by
     refine runs_of ?_
     refine rOF Try.func20 rfl ?_
     refine rs0 [(0, yp s8)] ?_
     refine rSz [(2, xb true)] H57 (zL 6 (qL 4 0 (.one (vb true)) (On.at hs58 0 rfl))) ?_
     refine wE ?_
     exact ⟨Or.inr rfl, [.one (vb true)], (by kernel_rfl), ⟨rfl, rfl⟩⟩
    refine rSz [(2, xb true)] H57 (zA 1 (qC1 hcall63) (zL 6 (qL 4 8 (.one (vb true)) (On.at hs58 0 rfl)))) ?_
    refine wE ?_
    exact ⟨Or.inr rfl, [.one (vb true)], (by kernel_rfl), ⟨rfl, rfl⟩⟩
   have hcall64 : Runs pg an 11 [.one (.ptr s8 0)] H57 [.one (vb true)] H57 := by
    refine runs_of ?_
    refine rOF Try.func11 rfl ?_
    refine rs0 [(0, yp s8)] ?_
    have hcall65 : Runs pg an 20 [.one (.ptr s8 0)] H57 [.one (vb true)] H57 := by
     refine runs_of ?_
     refine rOF Try.func20 rfl ?_
     refine rs0 [(0, yp s8)] ?_
     refine rSz [(2, xb true)] H57 (zL 6 (qL 4 0 (.one (vb true)) (On.at hs58 0 rfl))) ?_
     refine wE ?_
     exact ⟨Or.inr rfl, [.one (vb true)], (by kernel_rfl), ⟨rfl, rfl⟩⟩
    refine rSz [(2, xb true)] H57 (zA 1 (qC1 hcall65) (zL 6 (qL 4 8 (.one (vb true)) (On.at hs58 0 rfl)))) ?_
    refine wE ?_
    exact ⟨Or.inr rfl, [.one (vb true)], (by kernel_rfl), ⟨rfl, rfl⟩⟩
   refine rSz [(0, xi r), (1, xi tk), (2, .y (.one (sv NI false gn gn gl))), (8, yp s8), (14, xi (now + x23)), (15, .y (.one (rowC k51 0 L52.length 0 ((at_ ++ [(now + x23)]).length) false))), (16, xi i), (134, xb false)] H57 (zA 4 (Jc (H := H57) (s := AC) (t := 28) (ty := 0) (pu := true) (capd := false) (id := ka26) (d := 0) (o := 0) (n := A28.length) (l := A28) (e := (A28.length : Int)) (On.at hs58 3 rfl) (by kernel_rfl) (by first | rfl | omega | (simp only [ek_]; omega) | (simp; done) | (simp; omega))) (zA 5 (Jj (vals := [xi (A28.length : Int), xi 0]) (H := H57) (op := .binOp .eql 3 (.tmp 0) (.tmp 1) 3) (ty := 0) (r := xb (((A28.length : Int) : Int) == 0)) (v := xb false) (by kernel_rfl) (congrArg (fun z => xb z) (beq_f (by omega)))) (zA 9 (qC1 hcall62) (zA 12 (qgtrT H57 w r) (zL 17 (qC1 hcall64)))))) ?_
   refine wFk ?_
   have hcall66 : Runs pg an 11 [.one (.ptr s8 0)] H57 [.one (vb true)] H57 := by
    refine runs_of ?_
    refine rOF Try.func11 rfl ?_
    refine rs0 [(0, yp s8)] ?_
    have hcall67 : Runs pg an 20 [.one (.ptr s8 0)] H57 [.one (vb true)] H57 := by
     refine runs_of ?_
     refine rOF Try.func20 rfl ?_
     refine rs0 [(0, yp s8)] ?_
     refine rSz [(2, xb true)] H57 (zL 6 (qL 4 0 (.one (vb true)) (On.at hs58 0 rfl))) ?_
     refine wE ?_
     exact ⟨Or.inr rfl, [.one (vb true)], (by kernel_rfl), ⟨rfl, rfl⟩⟩
    refine rSz [(2, xb true)] H57 (zA 1 (qC1 hcall67) (zL 6 (qL 4 8 (.one (vb true)) (On.at hs58 0 rfl)))) ?_
    refine wE ?_
    exact ⟨Or.inr rfl, [.one (vb true)], (by kernel_rfl), ⟨rfl, rfl⟩⟩
   refine rSz [(0, xi r), (1, xi tk), (2, .y (.one (sv NI false gn gn gl))), (8, yp s8), (14, xi (now + x23)), (15, .y (.one (rowC k51 0 L52.length 0 ((at_ ++ [(now + x23)]).length) false))), (16, xi i), (136, xb true)] H57 (zL 1 (qC1 hcall66)) ?_
   refine wTa ?_
   refine rSz [(6, xb true)] H57 (zL 0 (Jo (H := H57) (g := 8) (vals := []) (xs0 := []) (xs1 := []) (res := [.one (vb true)]) (ats := #[]) (ty := 0) (v := xb true) [] (by kernel_rfl) (by kernel_rfl) (snap_nil) fn8 (by kernel_rfl))) ?_
   refine wE ?_
   refine ⟨Or.inr rfl, [.one (vb true)], (by kernel_rfl), ?_⟩
   exact (by kernel_rfl)
  have hs68 : On [partP NI ca at_, pts s8 (.obj [vb true, vi 1, vi r, vi tk, kids, rowC rr9 0 ([true, true, true] : List Bool).length 0 (([true, true, true] : List Bool).length) false, c32, vi (now + x23), vb false]), pts rr9 (rowO BB true 0 ([true, true, true] : List Bool)), partP NI c32 ((l.filter (keepB ((now + x23) - tk))) ++ [(now + x23)]), pts ka31 (rowO AC true 0 A33)] H36 := On.flat hs38
  have hfa : ((((l.filter (keepB ((now + x23) - tk))) ++ [(now + x23)]).length : Nat) : Int) = (((l.filter (keepB ((now + x23) - tk))).length : Nat) : Int) + 1 := by simp
  have hfb : (((l.filter (keepB ((now + x23) - tk))).length : Nat) : Int) ≤ (l.length : Int) := by have := List.length_filter_le (keepB ((now + x23) - tk)) l; omega
  refine rGz [(0, xi r), (1, xi tk), (2, .y (.one (sv NI false gn gn gl))), (8, yp s8), (14, xi (now + x23)), (15, .y (.one (ca))), (16, xi i), (17, .y (.one (rff ka31 A33))), (18, xi 0)] hs68 (zA 2 (Jj (vals := [xi i, xi 3]) (H := H20) (op := .binOp .rem 3 (.tmp 0) (.tmp 1) 3) (ty := 0) (r := xi (Int.tmod i 3)) (v := xi (i % 3)) (by kernel_rfl) (congrArg (fun z => xi z) (Int.tmod_eq_emod_of_nonneg (by omega)))) (zA 3 (qP1 H20 fn10) (zL 5 (Jn (H := H20) (g := 9) (vals := [yp s8, xi (i % 3), .y (.agg [vi 5, vi 0, .sc (.complex .f64 0 0), .sc (.string ⟨#[111, 111, 112, 115]⟩), vi 0, vi 0, nilC]), xi (now + x23)]) (xs0 := [.one (.ptr s8 0), .one (vi (i % 3)), .agg [vi 5, vi 0, .sc (.complex .f64 0 0), .sc (.string ⟨#[111, 111, 112, 115]⟩), vi 0, vi 0, nilC], .one (vi (now + x23))]) (res := [.one (rff ka31 A33), .one (vi 0)]) (ats := #[]) (ty := 0) (v := .tup [.one (rff ka31 A33), .one (vi 0)]) (H' := H36) [.tmp 0, .tmp 1, .tmp 2, .tmp 3] (by kernel_rfl) (by kernel_rfl) hr37 (by kernel_rfl))))) fun H69 hs70 => ?_
  obtain ⟨cv71, H72, ho73, hs74⟩ := or_append_part (P := pg) (A := an) (s := NI) (t := 22) (u := 22) (el := 3) (by_ := 8) (z := [vi 0]) (ty := 0) (y := .sl false false true [vi (now + x23)] 1) (x := (now + x23)) hs70 0 rfl ((slCells_slO (H := H69) (s := NI) (b := false) (nil := false) (capd := true) (l := [(now + x23)]) (n := 1) (by first | rfl | omega | (simp only [ek_]; omega) | (simp; done) | (simp; omega)))) (by kernel_rfl) (by kernel_rfl) (by kernel_rfl) (by kernel_rfl) (by kernel_rfl) (by kernel_rfl) (by kernel_rfl) (by omega) (by omega)
  have hs74l : ((at_ ++ [(now + x23)]).length : Int) = ((at_.length : Int) + 1) := by { first | omega | (simp only [ej_]; omega) | (simp; done) | (simp; omega) }
  refine rGz [(0, xi r), (1, xi tk), (2, .y (.one (sv NI false gn gn gl))), (8, yp s8), (14, xi (now + x23)), (15, .y (.one (cv71))), (16, xi i), (17, .y (.one (rff ka31 A33))), (18, xi 0)] hs74 (zL 3 ho73) fun H75 hs76 => ?_
  refine rs0 [(0, xi r), (1, xi tk), (2, .y (.one (sv NI false gn gn gl))), (8, yp s8), (14, xi (now + x23)), (15, .y (.one (cv71))), (16, xi i), (17, .y (.one (rff ka31 A33))), (18, xi 0), (19, xi 0)] ?_
  refine wS ?_
  refine rs0 [(0, xi r), (1, xi tk), (2, .y (.one (sv NI false gn gn gl))), (8, yp s8), (14, xi (now + x23)), (15, .y (.one (cv71))), (16, xi i), (17, .y (.one (rff ka31 A33))), (18, xi 0), (19, xi 0), (20, xi 0)] ?_
  refine wB ?_
  obtain ⟨rfl, hl79, hs77⟩ | ⟨k80, L81, rfl, hle82, hlt83, hs78⟩ := part_open hs76 4 rfl
  ·
   have hl79n : ((at_ ++ [(now + x23)]).length : Int) = 0 := by rw [hl79]; rfl
   exfalso; omega
  have hl84 : (L81.drop 0).take (at_ ++ [(now + x23)]).length = (at_ ++ [(now + x23)]) := by rw [ec_]; exact hlt83
  refine Wp.loop (T := HH × Int × Int) (fun t => match t with | (H86, k, w) => ((((at_ ++ [(now + x23)]).length : Int) - k).toNat : Nat)) (fun t => match t with | (H86, k, w) => ([(0, xi r), (1, xi tk), (2, .y (.one (sv NI false gn gn gl))), (8, yp s8), (14, xi (now + x23)), (15, .y (.one (rowC k80 0 L81.length 0 ((at_ ++ [(now + x23)]).length) false))), (16, xi i), (17, .y (.one (rff ka31 A33))), (18, xi 0), (19, xi w), (20, xi k)] : Env)) (fun t => match t with | (H86, k, w) => (H86 : HH))
    (fun t => match t with | (H86, k, w) => (On [pts s8 (.obj [vb true, vi 1, vi r, vi tk, kids, rowC rr9 0 ([true, true, true] : List Bool).length 0 (([true, true, true] : List Bool).length) false, c32, vi (now + x23), vb false]), pts rr9 (rowO BB true 0 ([true, true, true] : List Bool)), partP NI c32 ((l.filter (keepB ((now + x23) - tk))) ++ [(now + x23)]), pts ka31 (rowO AC true 0 A33), pts k80 (rowO NI true 0 L81)] H86 ∧ (0 ≤ k ∧ k ≤ ((at_ ++ [(now + x23)]).length : Int)) ∧ (w = ((((at_ ++ [(now + x23)]).take k.toNat).filter (keepB ((now + x23) - tk))).length : Int)) ∧ (0 ≤ w ∧ w ≤ k) : Prop)) (H75, 0, 0) (by kernel_rfl) (⟨(On.pick [0, 1, 2, 3, 4] [] (by kernel_rfl) hs78), by omega, by simp, by omega⟩) ?_
  rintro ⟨H86, k, w⟩ ⟨hs87, h1, h2, h3⟩
  show Wp _ _ _ _ [(0, xi r), (1, xi tk), (2, .y (.one (sv NI false gn gn gl))), (8, yp s8), (14, xi (now + x23)), (15, .y (.one (rowC k80 0 L81.length 0 ((at_ ++ [(now + x23)]).length) false))), (16, xi i), (17, .y (.one (rff ka31 A33))), (18, xi 0), (19, xi w), (20, xi k)] H86 _
  refine wS ?_
  by_cases c88 : (k : Int) < ((at_ ++ [(now + x23)]).length : Int)
  ·
   refine rSz [(0, xi r), (1, xi tk), (2, .y (.one (sv NI false gn gn gl))), (8, yp s8), (14, xi (now + x23)), (15, .y (.one (rowC k80 0 L81.length 0 ((at_ ++ [(now + x23)]).length) false))), (16, xi i), (17, .y (.one (rff ka31 A33))), (18, xi 0), (19, xi w), (20, xi k), (95, xb true)] H86 (zA 2 (Jc (H := H86) (s := NI) (t := 22) (ty := 0) (pu := true) (capd := false) (id := k80) (d := 0) (o := 0) (n := ((at_ ++ [(now + x23)]).length)) (l := L81) (e := ((at_ ++ [(now + x23)]).length : Int)) (On.at hs87 4 rfl) (by kernel_rfl) (by first | rfl | omega | (simp only [ek_]; omega) | (simp; done) | (simp; omega))) (zL 3 (qlssT H86 k ((at_ ++ [(now + x23)]).length : Int)))) ?_
   refine wTk ?_
   refine wS (wB ?_)
   obtain ⟨x89, hx89⟩ : ∃ x : Int, (at_ ++ [(now + x23)])[(k : Int).toNat]? = some x := get_of (by first | rfl | omega | (simp only [ek_]; omega) | (simp; done) | (simp; omega))
   have hbx89 := in_step g5 (by omega) (by omega) x89 (List.mem_of_getElem? hx89)
   by_cases c90 : ((now + x23 - x89) : Int) ≤ tk
   ·
    refine rSz [(0, xi r), (1, xi tk), (2, .y (.one (sv NI false gn gn gl))), (8, yp s8), (14, xi (now + x23)), (15, .y (.one (rowC k80 0 L81.length 0 ((at_ ++ [(now + x23)]).length) false))), (16, xi i), (17, .y (.one (rff ka31 A33))), (18, xi 0), (19, xi w), (20, xi k), (105, xb true)] H86 (zA 3 (Ja (H := H86) (s := NI) (t := 22) (el := 3) (ty := 0) (pu := true) (capd := false) (id := k80) (d := 0) (o := 0) (n := ((at_ ++ [(now + x23)]).length)) (j := ((k : Int).toNat)) (l := L81) (i := k) (On.at hs87 4 rfl) Try.underlying22 (by kernel_rfl) (by omega) (by first | rfl | omega | (simp only [ek_]; omega) | (simp; done) | (simp; omega)) (by first | rfl | omega | (simp only [ek_]; omega) | (simp; done) | (simp; omega)) (by first | rfl | omega | (simp only [ek_]; omega) | (simp; done) | (simp; omega))) (zA 4 (Jb (H := H86) (s := NI) (t := 3) (ty := 0) (pu := true) (id := k80) (d := 0) (j := ((k : Int).toNat)) (o := 0) (n := 1) (l := L81) (x := x89) (v := .one (vi x89)) (On.at hs87 4 rfl) (by kernel_rfl) (by kernel_rfl) (of_content (L := L81) (o := 0) (n := ((at_ ++ [(now + x23)]).length)) (hl84) hx89 (by first | rfl | omega | (simp only [ek_]; omega) | (simp; done) | (simp; omega))) (by kernel_rfl)) (zA 5 (qoSub H86 (now + x23) x89 (now + x23 - x89)) (zL 7 (qleqT H86 (now + x23 - x89) tk))))) ?_
    refine wTa ?_
    refine rRz [(0, xi r), (1, xi tk), (2, .y (.one (sv NI false gn gn gl))), (8, yp s8), (14, xi (now + x23)), (15, .y (.one (rowC k80 0 L81.length 0 ((at_ ++ [(now + x23)]).length) false))), (16, xi i), (17, .y (.one (rff ka31 A33))), (18, xi 0), (19, xi (w + 1)), (20, xi k)] H86 (zL 1 (qoAdd H86 w 1 (w + 1))) ?_
    refine rRz [(0, xi r), (1, xi tk), (2, .y (.one (sv NI false gn gn gl))), (8, yp s8), (14, xi (now + x23)), (15, .y (.one (rowC k80 0 L81.length 0 ((at_ ++ [(now + x23)]).length) false))), (16, xi i), (17, .y (.one (rff ka31 A33))), (18, xi 0), (19, xi (w + 1)), (20, xi (k + 1))] H86 (zL 1 (qoAdd H86 k 1 (k + 1))) ?_
    exact ⟨(H86, (k + 1), (w + 1)), by kernel_rfl, (⟨(On.pick [0, 1, 2, 3, 4] [] (by kernel_rfl) hs87), by omega, with_t (by omega) h2 hx89 (by omega), by omega⟩), (by show (_ : Nat) < _; simp only []; omega)⟩
   refine rSz [(0, xi r), (1, xi tk), (2, .y (.one (sv NI false gn gn gl))), (8, yp s8), (14, xi (now + x23)), (15, .y (.one (rowC k80 0 L81.length 0 ((at_ ++ [(now + x23)]).length) false))), (16, xi i), (17, .y (.one (rff ka31 A33))), (18, xi 0), (19, xi w), (20, xi k), (105, xb false)] H86 (zA 3 (Ja (H := H86) (s := NI) (t := 22) (el := 3) (ty := 0) (pu := true) (capd := false) (id := k80) (d := 0) (o := 0) (n := ((at_ ++ [(now + x23)]).length)) (j := ((k : Int).toNat)) (l := L81) (i := k) (On.at hs87 4 rfl) Try.underlying22 (by kernel_rfl) (by omega) (by first | rfl | omega | (simp only [ek_]; omega) | (simp; done) | (simp; omega)) (by first | rfl | omega | (simp only [ek_]; omega) | (simp; done) | (simp; omega)) (by first | rfl | omega | (simp only [ek_]; omega) | (simp; done) | (simp; omega))) (zA 4 (Jb (H := H86) (s := NI) (t := 3) (ty := 0) (pu := true) (id := k80) (d := 0) (j := ((k : Int).toNat)) (o := 0) (n := 1) (l := L81) (x := x89) (v := .one (vi x89)) (On.at hs87 4 rfl) (by kernel_rfl) (by kernel_rfl) (of_content (L := L81) (o := 0) (n := ((at_ ++ [(now + x23)]).length)) (hl84) hx89 (by first | rfl | omega | (simp only [ek_]; omega) | (simp; done) | (simp; omega))) (by kernel_rfl)) (zA 5 (qoSub H86 (now + x23) x89 (now + x23 - x89)) (zL 7 (qleqF H86 (now + x23 - x89) tk))))) ?_
   refine wFk ?_
   refine rRz [(0, xi r), (1, xi tk), (2, .y (.one (sv NI false gn gn gl))), (8, yp s8), (14, xi (now + x23)), (15, .y (.one (rowC k80 0 L81.length 0 ((at_ ++ [(now + x23)]).length) false))), (16, xi i), (17, .y (.one (rff ka31 A33))), (18, xi 0), (19, xi w), (20, xi (k + 1))] H86 (zL 1 (qoAdd H86 k 1 (k + 1))) ?_
   exact ⟨(H86, (k + 1), w), by kernel_rfl, (⟨(On.pick [0, 1, 2, 3, 4] [] (by kernel_rfl) hs87), by omega, with_f (by omega) h2 hx89 (by omega), by omega⟩), (by show (_ : Nat) < _; simp only []; omega)⟩
  refine rSz [(0, xi r), (1, xi tk), (2, .y (.one (sv NI false gn gn gl))), (8, yp s8), (14, xi (now + x23)), (15, .y (.one (rowC k80 0 L81.length 0 ((at_ ++ [(now + x23)]).length) false))), (16, xi i), (17, .y (.one (rff ka31 A33))), (18, xi 0), (19, xi w), (20, xi k), (95, xb false)] H86 (zA 2 (Jc (H := H86) (s := NI) (t := 22) (ty := 0) (pu := true) (capd := false) (id := k80) (d := 0) (o := 0) (n := ((at_ ++ [(now + x23)]).length)) (l := L81) (e := ((at_ ++ [(now + x23)]).length : Int)) (On.at hs87 4 rfl) (by kernel_rfl) (by first | rfl | omega | (simp only [ek_]; omega) | (simp; done) | (simp; omega))) (zL 3 (qlssF H86 k ((at_ ++ [(now + x23)]).length : Int)))) ?_
  refine wFa ?_
  refine wX ?_
  have hw : w = ((((l.filter (keepB ((now + x23) - tk))) ++ [(now + x23)]).length : Nat) : Int) := by rw [show ((l.filter (keepB ((now + x23) - tk))) ++ [(now + x23)]) = (at_ ++ [(now + x23)]).filter (keepB ((now + x23) - tk)) from (by rw [g4]; exact keep_step (by omega) (by omega))]; exact with_end (by omega) h2
  refine Eq.mpr (if_pos rfl) ?_
  refine wS ?_
  obtain ⟨_, H96, hr97, ⟨k95, rfl, hs98⟩⟩ := restq _ (H86 : HH) (On.call [0, 1, 2] [3, 4] (by kernel_rfl) hs87) (s := s8) (rr := rr9) (c := c32) (l := ((l.filter (keepB ((now + x23) - tk))) ++ [(now + x23)])) (r := r) (tk := tk) (last := (now + x23)) (by omega) (by omega)
  have hs99 : On [pts ka31 (rowO AC true 0 A33), pts k80 (rowO NI true 0 L81), pts s8 (.obj [vb true, vi 1, vi r, vi tk, kids, rowC rr9 0 ([true, true, true] : List Bool).length 0 (([true, true, true] : List Bool).length) false, c32, vi (now + x23), vb false]), pts rr9 (rowO BB true 0 ([true, true, true] : List Bool)), partP NI c32 ((l.filter (keepB ((now + x23) - tk))) ++ [(now + x23)]), pts k95 (rowO NI true 0 ((l.filter (keepB ((now + x23) - tk))) ++ [(now + x23)]))] H96 := On.flat hs98
  have hcall100 : Runs pg an 11 [.one (.ptr s8 0)] H86 [.one (vb false)] H86 := by
   refine runs_of ?_
   refine rOF Try.func11 rfl ?_
   refine rs0 [(0, yp s8)] ?_
   have hcall101 : Runs pg an 20 [.one (.ptr s8 0)] H86 [.one (vb true)] H86 := by
    refine runs_of ?_
    refine rOF Try.func20 rfl ?_
    refine rs0 [(0, yp s8)] ?_
    refine rSz [(2, xb true)] H86 (zL 6 (qL 4 0 (.one (vb true)) (On.at hs87 0 rfl))) ?_
    refine wE ?_
    exact ⟨Or.inr rfl, [.one (vb true)], (by kernel_rfl), ⟨rfl, rfl⟩⟩
   refine rSz [(2, xb false)] H86 (zA 1 (qC1 hcall101) (zL 6 (qL 4 8 (.one (vb false)) (On.at hs87 0 rfl)))) ?_
   refine wE ?_
   exact ⟨Or.inr rfl, [.one (vb false)], (by kernel_rfl), ⟨rfl, rfl⟩⟩
  have hcall102 : Runs pg an 11 [.one (.ptr s8 0)] H86 [.one (vb false)] H86 := by
   refine runs_of ?_
   refine rOF Try.func11 rfl ?_
   refine rs0 [(0, yp s8)] ?_
   have hcall103 : Runs pg an 20 [.one (.ptr s8 0)] H86 [.one (vb true)] H86 := by
    refine runs_of ?_
    refine rOF Try.func20 rfl ?_
    refine rs0 [(0, yp s8)] ?_
    refine rSz [(2, xb true)] H86 (zL 6 (qL 4 0 (.one (vb true)) (On.at hs87 0 rfl))) ?_
    refine wE ?_
    exact ⟨Or.inr rfl, [.one (vb true)], (by kernel_rfl), ⟨rfl, rfl⟩⟩
   refine rSz [(2, xb false)] H86 (zA 1 (qC1 hcall103) (zL 6 (qL 4 8 (.one (vb false)) (On.at hs87 0 rfl)))) ?_
   refine wE ?_
   exact ⟨Or.inr rfl, [.one (vb false)], (by kernel_rfl), ⟨rfl, rfl⟩⟩
  refine rGz [(0, xi r), (1, xi tk), (2, .y (.one (sv NI false gn gn gl))), (8, yp s8), (14, xi (now + x23)), (15, .y (.one (rowC k80 0 L81.length 0 ((at_ ++ [(now + x23)]).length) false))), (16, xi i), (134, xb false)] hs99 (zA 4 (Jc (H := H86) (s := AC) (t := 28) (ty := 0) (pu := true) (capd := false) (id := ka31) (d := 0) (o := 0) (n := A33.length) (l := A33) (e := (A33.length : Int)) (On.at hs87 3 rfl) (by kernel_rfl) (by first | rfl | omega | (simp only [ek_]; omega) | (simp; done) | (simp; omega))) (zA 5 (Jj (vals := [xi (A33.length : Int), xi 0]) (H := H86) (op := .binOp .eql 3 (.tmp 0) (.tmp 1) 3) (ty := 0) (r := xb (((A33.length : Int) : Int) == 0)) (v := xb false) (by kernel_rfl) (congrArg (fun z => xb z) (beq_f (by omega)))) (zA 9 (qC1 hcall100) (zA 12 (qgtrF H86 w r) (zA 17 (qC1 hcall102) (zA 21 (qC1 hr97) (zA 22 (Jc (H := H96) (s := NI) (t := 22) (ty := 0) (pu := true) (capd := false) (id := k95) (d := 0) (o := 0) (n := (((l.filter (keepB ((now + x23) - tk))) ++ [(now + x23)]).length)) (l := ((l.filter (keepB ((now + x23) - tk))) ++ [(now + x23)])) (e := (((l.filter (keepB ((now + x23) - tk))) ++ [(now + x23)]).length : Int)) (On.at hs99 5 rfl) (by kernel_rfl) (by first | rfl | omega | (simp only [ek_]; omega) | (simp; done) | (simp; omega))) (zL 24 (Jj (vals := [xi (((l.filter (keepB ((now + x23) - tk))) ++ [(now + x23)]).length : Int), xi w]) (H := H96) (op := .binOp .neq 3 (.tmp 0) (.tmp 1) 3) (ty := 0) (r := xb (((((l.filter (keepB ((now + x23) - tk))) ++ [(now + x23)]).length : Int) : Int) != w)) (v := xb false) (by kernel_rfl) (congrArg (fun z => xb z) (bne_f (by omega)))))))))))) fun H104 hs105 => ?_
  refine wFk ?_
  have hcall106 : Runs pg an 11 [.one (.ptr s8 0)] H104 [.one (vb false)] H104 := by
   refine runs_of ?_
   refine rOF Try.func11 rfl ?_
   refine rs0 [(0, yp s8)] ?_
   have hcall107 : Runs pg an 20 [.one (.ptr s8 0)] H104 [.one (vb true)] H104 := by
    refine runs_of ?_
    refine rOF Try.func20 rfl ?_
    refine rs0 [(0, yp s8)] ?_
    refine rSz [(2, xb true)] H104 (zL 6 (qL 4 0 (.one (vb true)) (On.at hs105 2 rfl))) ?_
    refine wE ?_
    exact ⟨Or.inr rfl, [.one (vb true)], (by kernel_rfl), ⟨rfl, rfl⟩⟩
   refine rSz [(2, xb false)] H104 (zA 1 (qC1 hcall107) (zL 6 (qL 4 8 (.one (vb false)) (On.at hs105 2 rfl)))) ?_
   refine wE ?_
   exact ⟨Or.inr rfl, [.one (vb false)], (by kernel_rfl), ⟨rfl, rfl⟩⟩
  refine rSz [(0, xi r), (1, xi tk), (2, .y (.one (sv NI false gn gn gl))), (8, yp s8), (14, xi (now + x23)), (15, .y (.one (rowC k80 0 L81.length 0 ((at_ ++ [(now + x23)]).length) false))), (16, xi i), (136, xb false)] H104 (zL 1 (qC1 hcall106)) ?_
  refine wFk ?_
  refine rRz [(0, xi r), (1, xi tk), (2, .y (.one (sv NI false gn gn gl))), (8, yp s8), (14, xi (now + x23)), (15, .y (.one (rowC k80 0 L81.length 0 ((at_ ++ [(now + x23)]).length) false))), (16, xi (i + 1))] H104 (zL 1 (qoAdd H104 i 1 (i + 1))) ?_
  have hs108 : On [pts ka31 (rowO AC true 0 A33), pts s8 (.obj [vb true, vi 1, vi r, vi tk, kids, rowC rr9 0 ([true, true, true] : List Bool).length 0 (([true, true, true] : List Bool).length) false, c32, vi (now + x23), vb false]), pts rr9 (rowO BB true 0 ([true, true, true] : List Bool)), partP NI c32 ((l.filter (keepB ((now + x23) - tk))) ++ [(now + x23)]), pts k95 (rowO NI true 0 ((l.filter (keepB ((now + x23) - tk))) ++ [(now + x23)])), partP NI (rowC k80 0 L81.length 0 ((at_ ++ [(now + x23)]).length) false) (at_ ++ [(now + x23)])] H104 := sH hs105 [1] [0, 2, 3, 4, 5] (fun _ x => part_row (by rfl) (by omega) (hlt83) x)
  exact ⟨(H104, (i + 1), (now + x23), c32, (rowC k80 0 L81.length 0 ((at_ ++ [(now + x23)]).length) false), ((l.filter (keepB ((now + x23) - tk))) ++ [(now + x23)]), (at_ ++ [(now + x23)])), by kernel_rfl, (⟨(On.pick [1, 2, 3, 5] [0, 4] (by kernel_rfl) hs108), by omega, by omega, by omega, (by rw [g4]; exact keep_step (by omega) (by omega)), in_step g5 (by omega) (by omega), by omega⟩), (by show (_ : Nat) < _; simp only []; omega)⟩
 refine rSz [(0, xi r), (1, xi tk), (2, .y (.one (sv NI false gn gn gl))), (8, yp s8), (14, xi now), (15, .y (.one (ca))), (16, xi i), (57, xb false)] H20 (zL 3 (qlssF H20 i (gl.length : Int))) ?_
 refine wFa ?_
 refine wX ?_
 refine Eq.mpr (if_pos rfl) ?_
 refine rSz [(6, xb true)] H20 (zL 0 (Jo (H := H20) (g := 8) (vals := []) (xs0 := []) (xs1 := []) (res := [.one (vb true)]) (ats := #[]) (ty := 0) (v := xb true) [] (by kernel_rfl) (by kernel_rfl) (snap_nil) fn8 (by kernel_rfl))) ?_
 refine wE ?_
 refine ⟨Or.inr rfl, [.one (vb true)], (by kernel_rfl), ?_⟩
 exact (by kernel_rfl)
end Go.Proofs.Ytbkdpmkjcoaapaa
