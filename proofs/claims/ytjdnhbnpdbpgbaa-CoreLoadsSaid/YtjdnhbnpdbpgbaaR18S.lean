/-
  Core: what is kept; the law of any queues. (Printed by sx/r18.py.)
-/
import Derived.Test.YtjdnhbnpdbpgbaaR18N
namespace Go.Proofs.Ytjdnhbnpdbpgbaa
open Go.Lg
set_option linter.unusedVariables false
set_option maxRecDepth 100000
set_option maxHeartbeats 8000000
set_option linter.unusedSimpArgs false
theorem kept_ok (R : HP) (H : Go.Lg.Heap) (k : Nat) (b nn9 cp : Bool) (S : List Int) (hs : On [R, pts k (rowO NI true 0 (S ++ mk 70))] H) (hsl : (S.length : Int) ≤ 17592186043904) : ∃ rs H', Runs pg an 10 [.one (rowC k 0 (S ++ mk 70).length 0 S.length false), .one (sv NI b nn9 cp S)] H rs H' ∧ rs = [.one (vb true)] ∧ On [R, pts k (rowO NI true 0 (S ++ mk 70))] H' := by
 have hl9 : ((S ++ mk 70).drop 0).take S.length = S := by rw [List.drop_zero, List.take_left' rfl]
 have hlm : ((S ++ mk 70).length : Int) = S.length + 70 := by rw [List.length_append]; have := mk_len 70; omega
 refine Runs.of (fn := Try.f10) Try.func10 rfl (by kernel_rfl) [(0, .y (.one (rowC k 0 (S ++ mk 70).length 0 S.length false))), (1, .y (.one (sv NI b nn9 cp S)))] (by kernel_rfl) ?_
 refine rSq [] [(0, .y (.one (rowC k 0 (S ++ mk 70).length 0 S.length false))), (1, .y (.one (sv NI b nn9 cp S)))] H
   (cast trivial (by kernel_rfl)) (by kernel_rfl) ?_
 refine rSq [(3, xi ((S.length : Int) + 70), H), (4, .y (.one (rowC k 0 (S ++ mk 70).length 0 ((S ++ mk 70).length) false)), H)] [(0, .y (.one (rowC k 0 (S ++ mk 70).length 0 S.length false))), (1, .y (.one (sv NI b nn9 cp S))), (5, .y (.one (rowC k 0 (S ++ mk 70).length 0 ((S ++ mk 70).length) false)))] H
   (cast (Jai (Ja (vals := [xi (S.length : Int), xi 70]) (H := H) (op := .binOp .add 3 (.tmp 0) (.tmp 1) 3) (ty := 0) (r := xi (IntKind.wrap .i64 ((S.length : Int) + 70))) (v := xi ((S.length : Int) + 70)) (by kernel_rfl) (congrArg (fun z => xi z) ((wrap64 (by omega)).trans (by omega)))) (Jai (Ja1 (H := H) (s := NI) (t := 22) (el := 3) (ty := 0) (pu := true) (id := k) (d := 0) (o := 0) (n := S.length) (l := (S ++ mk 70)) (n' := ((S ++ mk 70).length)) (h := ((S.length : Int) + 70)) (On.at hs 1 rfl) (by kernel_rfl) (by kernel_rfl) (by omega) (by first | rfl | omega | (simp; done) | (simp; omega)) (by first | rfl | omega | (simp; done) | (simp; omega))) trivial)) (by kernel_rfl)) (by kernel_rfl) ?_
 refine Wp.seq ?_
 refine rSq [] [(0, .y (.one (rowC k 0 (S ++ mk 70).length 0 S.length false))), (1, .y (.one (sv NI b nn9 cp S))), (5, .y (.one (rowC k 0 (S ++ mk 70).length 0 ((S ++ mk 70).length) false))), (6, xi 0)] H
   (cast trivial (by kernel_rfl)) (by kernel_rfl) ?_
 refine Wp.block ?_
 refine Wp.loop (T := Go.Lg.Heap × Int) (fun (t : Go.Lg.Heap × Int) => match t with | (H2, i) => ((70 - i).toNat : Nat)) (fun (t : Go.Lg.Heap × Int) => match t with | (H2, i) => ([(0, .y (.one (rowC k 0 (S ++ mk 70).length 0 S.length false))), (1, .y (.one (sv NI b nn9 cp S))), (5, .y (.one (rowC k 0 (S ++ mk 70).length 0 ((S ++ mk 70).length) false))), (6, xi i)] : Env)) (fun (t : Go.Lg.Heap × Int) => match t with | (H2, i) => (H2 : Go.Lg.Heap))
   (fun (t : Go.Lg.Heap × Int) => match t with | (H2, i) => (On [R, pts k (rowO NI true 0 (S ++ mk 70))] H2 ∧ (0 ≤ i) ∧ (i ≤ 70) : Prop)) (H, 0) (by kernel_rfl) (⟨(On.pick [0, 1] [] (by kernel_rfl) hs), by omega, by omega⟩) ?_
 rintro ⟨H2, i⟩ ⟨hs3, h1, h2⟩
 show Wp _ _ _ _ [(0, .y (.one (rowC k 0 (S ++ mk 70).length 0 S.length false))), (1, .y (.one (sv NI b nn9 cp S))), (5, .y (.one (rowC k 0 (S ++ mk 70).length 0 ((S ++ mk 70).length) false))), (6, xi i)] H2 _
 refine Wp.seq ?_
 by_cases c4 : (i : Int) < 70
 ·
  refine rSq [(1, xb true, H2)] [(0, .y (.one (rowC k 0 (S ++ mk 70).length 0 S.length false))), (1, .y (.one (sv NI b nn9 cp S))), (5, .y (.one (rowC k 0 (S ++ mk 70).length 0 ((S ++ mk 70).length) false))), (6, xi i), (13, xb true)] H2
    (cast (Jai (Ja (vals := [xi i, xi 70]) (H := H2) (op := .binOp .lss 3 (.tmp 0) (.tmp 1) 3) (ty := 0) (r := xb (decide ((i : Int) < 70))) (v := xb true) (by kernel_rfl) (congrArg (fun z => xb z) (decide_eq_true (by omega)))) trivial) (by kernel_rfl)) (by kernel_rfl) ?_
  refine Wp.condT (by kernel_rfl) ?_
  refine Wp.skip ?_
  refine Wp.seq ?_
  refine Wp.block ?_
  obtain ⟨x5, hx5⟩ : ∃ x : Int, (S ++ mk 70)[(((S.length : Int) + i) : Int).toNat]? = some x := get_of (by first | rfl | omega | (simp; done) | (simp; omega))
  have hm6 : x5 = -770000 - i := mk_get (S := S) (n := 70) h1 (by omega) hx5
  refine rSq [(4, xi ((S.length : Int) + i), H2), (5, .y (.one (raC k 0 (S ++ mk 70).length 1 ((((S.length : Int) + i) : Int).toNat) 0)), H2), (6, xi x5, H2), (8, xi (-i - 770000), H2), (9, xb false, H2)] [(0, .y (.one (rowC k 0 (S ++ mk 70).length 0 S.length false))), (1, .y (.one (sv NI b nn9 cp S))), (5, .y (.one (rowC k 0 (S ++ mk 70).length 0 ((S ++ mk 70).length) false))), (6, xi i), (25, xb false)] H2
    (cast (Jai (Ja (vals := [xi (S.length : Int), xi i]) (H := H2) (op := .binOp .add 3 (.tmp 0) (.tmp 1) 3) (ty := 0) (r := xi (IntKind.wrap .i64 ((S.length : Int) + i))) (v := xi ((S.length : Int) + i)) (by kernel_rfl) (congrArg (fun z => xi z) ((wrap64 (by omega)).trans (by omega)))) (Jai (Ju (H := H2) (s := NI) (t := 22) (el := 3) (ty := 0) (pu := true) (capd := false) (id := k) (d := 0) (o := 0) (n := ((S ++ mk 70).length)) (j := ((((S.length : Int) + i) : Int).toNat)) (l := (S ++ mk 70)) (i := ((S.length : Int) + i)) (On.at hs3 1 rfl) Try.underlying22 (by kernel_rfl) (by omega) (by first | rfl | omega | (simp; done) | (simp; omega)) (by first | rfl | omega | (simp; done) | (simp; omega)) (by first | rfl | omega | (simp; done) | (simp; omega))) (Jai (Jb1 (H := H2) (s := NI) (t := 3) (ty := 0) (pu := true) (id := k) (d := 0) (j := ((((S.length : Int) + i) : Int).toNat)) (o := 0) (n := 1) (l := (S ++ mk 70)) (x := x5) (v := .one (vi x5)) (On.at hs3 1 rfl) (by kernel_rfl) (by kernel_rfl) (of_content (dt0 rfl (Nat.le_refl _)) hx5 (by first | rfl | omega | (simp; done) | (simp; omega))) (by kernel_rfl)) (Jai (Ja (vals := [xi (-770000), xi i]) (H := H2) (op := .binOp .sub 3 (.tmp 0) (.tmp 1) 3) (ty := 0) (r := xi (IntKind.wrap .i64 ((-770000) - i))) (v := xi (-i - 770000)) (by kernel_rfl) (congrArg (fun z => xi z) ((wrap64 (by omega)).trans (by omega)))) (Jai (Ja (vals := [xi x5, xi (-i - 770000)]) (H := H2) (op := .binOp .neq 3 (.tmp 0) (.tmp 1) 3) (ty := 0) (r := xb ((x5 : Int) != (-i - 770000))) (v := xb false) (by kernel_rfl) (congrArg (fun z => xb z) (bne_f (by omega)))) trivial))))) (by kernel_rfl)) (by kernel_rfl) ?_
  refine Wp.condF (by kernel_rfl) ?_
  refine Wp.skip ?_
  refine Wp.region [(1, xi (i + 1), H2)] [(0, .y (.one (rowC k 0 (S ++ mk 70).length 0 S.length false))), (1, .y (.one (sv NI b nn9 cp S))), (5, .y (.one (rowC k 0 (S ++ mk 70).length 0 ((S ++ mk 70).length) false))), (6, xi (i + 1))] H2
    (cast (Jai (Ja (vals := [xi i, xi 1]) (H := H2) (op := .binOp .add 3 (.tmp 0) (.tmp 1) 3) (ty := 0) (r := xi (IntKind.wrap .i64 (i + 1))) (v := xi (i + 1)) (by kernel_rfl) (congrArg (fun z => xi z) ((wrap64 (by omega)).trans (by omega)))) trivial) (by kernel_rfl)) (by kernel_rfl) ?_
  exact ⟨(H2, (i + 1)), by kernel_rfl, (⟨(On.pick [0, 1] [] (by kernel_rfl) hs3), by omega, by omega⟩), (by show (_ : Nat) < _; simp only []; omega)⟩
 ·
  refine rSq [(1, xb false, H2)] [(0, .y (.one (rowC k 0 (S ++ mk 70).length 0 S.length false))), (1, .y (.one (sv NI b nn9 cp S))), (5, .y (.one (rowC k 0 (S ++ mk 70).length 0 ((S ++ mk 70).length) false))), (6, xi i), (13, xb false)] H2
    (cast (Jai (Ja (vals := [xi i, xi 70]) (H := H2) (op := .binOp .lss 3 (.tmp 0) (.tmp 1) 3) (ty := 0) (r := xb (decide ((i : Int) < 70))) (v := xb false) (by kernel_rfl) (congrArg (fun z => xb z) (decide_eq_false (by omega)))) trivial) (by kernel_rfl)) (by kernel_rfl) ?_
  refine Wp.condF (by kernel_rfl) ?_
  refine Wp.exit ?_
  refine Eq.mpr (if_pos rfl) ?_
  refine rSq [(2, xb true, H2)] [(4, xb true)] H2
    (cast (Jai (Je (H := H2) (g := 29) (vals := [.y (.one (rowC k 0 (S ++ mk 70).length 0 S.length false)), .y (.one (sv NI b nn9 cp S))]) (xs0 := [.one (rowC k 0 (S ++ mk 70).length 0 S.length false), .one (sv NI b nn9 cp S)]) (xs1 := [.one (sv NI true false false S), .one (sv NI b nn9 cp S)]) (res := [.one (vb true)]) (ats := #[]) (ty := 0) (v := xb true) [.tmp 0, .tmp 1] (by kernel_rfl) (by kernel_rfl) (snap_cons (snap_rowO (H := H2) (s := NI) (id := k) (d := 0) (o := 0) (n := S.length) (capd := false) (l := (S ++ mk 70)) (m := S) (On.at hs3 1 rfl) (by first | rfl | omega | (simp; done) | (simp; omega)) (hl9)) (snap_cons (by kernel_rfl) (snap_nil))) (alike_t true false false b nn9 cp S (by omega)) (by kernel_rfl)) trivial) (by kernel_rfl)) (by kernel_rfl) ?_
  refine Wp.ret ?_
  refine ⟨Or.inr rfl, [.one (vb true)], (by kernel_rfl), ?_⟩
  exact ⟨rfl, (On.pick [0, 1] [] (by kernel_rfl) hs3)⟩
theorem marked_ok (R : HP) (H : Go.Lg.Heap) (k : Nat) (S : List Int) (hs : On [R, pts k (rowO NI true 0 (S ++ mk 70))] H) (hsl : (S.length : Int) ≤ 17592186043904) : ∃ rs H', Runs pg an 12 [.one (rowC k 0 (S ++ mk 70).length 0 S.length false), .one (vi 1)] H rs H' ∧ rs = [] ∧ On [R] H' := by
 have hlm : ((S ++ mk 70).length : Int) = S.length + 70 := by rw [List.length_append]; have := mk_len 70; omega
 refine Runs.of (fn := Try.f12) Try.func12 rfl (by kernel_rfl) [(0, .y (.one (rowC k 0 (S ++ mk 70).length 0 S.length false))), (1, xi 1)] (by kernel_rfl) ?_
 refine rSq [] [(0, .y (.one (rowC k 0 (S ++ mk 70).length 0 S.length false))), (1, xi 1), (4, xi 0)] H
   (cast trivial (by kernel_rfl)) (by kernel_rfl) ?_
 refine Wp.block ?_
 refine Wp.loop (T := Go.Lg.Heap × Int × List Int) (fun (t : Go.Lg.Heap × Int × List Int) => match t with | (H2, i, L) => (((S.length : Int) - i).toNat : Nat)) (fun (t : Go.Lg.Heap × Int × List Int) => match t with | (H2, i, L) => ([(0, .y (.one (rowC k 0 L.length 0 S.length false))), (1, xi 1), (4, xi i)] : Env)) (fun (t : Go.Lg.Heap × Int × List Int) => match t with | (H2, i, L) => (H2 : Go.Lg.Heap))
   (fun (t : Go.Lg.Heap × Int × List Int) => match t with | (H2, i, L) => (On [R, pts k (rowO NI true 0 L)] H2 ∧ (0 ≤ i) ∧ (i ≤ (S.length : Int)) ∧ ((L.length : Int) = S.length + 70) : Prop)) (H, 0, (S ++ mk 70)) (by kernel_rfl) (⟨(On.pick [0, 1] [] (by kernel_rfl) hs), by omega, by omega, by omega⟩) ?_
 rintro ⟨H2, i, L⟩ ⟨hs3, h1, h2, h3⟩
 show Wp _ _ _ _ [(0, .y (.one (rowC k 0 L.length 0 S.length false))), (1, xi 1), (4, xi i)] H2 _
 refine Wp.seq ?_
 by_cases c4 : (i : Int) < (S.length : Int)
 ·
  refine rSq [(2, xi (S.length : Int), H2), (3, xb true, H2)] [(0, .y (.one (rowC k 0 L.length 0 S.length false))), (1, xi 1), (4, xi i), (8, xb true)] H2
    (cast (Jai (Jl (H := H2) (s := NI) (t := 22) (ty := 0) (pu := true) (capd := false) (id := k) (d := 0) (o := 0) (n := S.length) (l := L) (e := (S.length : Int)) (On.at hs3 1 rfl) (by kernel_rfl) (by first | rfl | omega | (simp; done) | (simp; omega))) (Jai (Ja (vals := [xi i, xi (S.length : Int)]) (H := H2) (op := .binOp .lss 3 (.tmp 0) (.tmp 1) 3) (ty := 0) (r := xb (decide ((i : Int) < (S.length : Int)))) (v := xb true) (by kernel_rfl) (congrArg (fun z => xb z) (decide_eq_true (by omega)))) trivial)) (by kernel_rfl)) (by kernel_rfl) ?_
  refine Wp.condT (by kernel_rfl) ?_
  refine Wp.skip ?_
  refine Wp.seq ?_
  refine Wp.block ?_
  obtain ⟨x5, hx5⟩ : ∃ x : Int, ((L.drop 0).take S.length)[(i : Int).toNat]? = some x := get_of (by first | rfl | omega | (simp; done) | (simp; omega))
  refine rKq [(4, .y (.one (raC k 0 L.length 1 ((i : Int).toNat) 0)), H2), (5, .tup [], (List.set (α := O) H2 k (.row true true 0 (0 + L.length) 1 ((L.set ((i : Int).toNat) (-1000001)).flatMap (enc NI)))))] [(0, .y (.one (rowC k 0 L.length 0 S.length false))), (1, xi 1), (4, xi i)] (List.set (α := O) H2 k (.row true true 0 (0 + L.length) 1 ((L.set ((i : Int).toNat) (-1000001)).flatMap (enc NI))))
    (cast (Jai (Ju (H := H2) (s := NI) (t := 22) (el := 3) (ty := 0) (pu := true) (capd := false) (id := k) (d := 0) (o := 0) (n := S.length) (j := ((i : Int).toNat)) (l := L) (i := i) (On.at hs3 1 rfl) Try.underlying22 (by kernel_rfl) (by omega) (by first | rfl | omega | (simp; done) | (simp; omega)) (by first | rfl | omega | (simp; done) | (simp; omega)) (by first | rfl | omega | (simp; done) | (simp; omega))) (Jai (Jg1 (H := H2) (s := NI) (t := 3) (ty := 0) (pu := true) (id := k) (d := 0) (j := ((i : Int).toNat)) (o := 0) (l := L) (x := x5) (x' := (-1000001)) (v := .one (vi (-1000001))) (On.at hs3 1 rfl) (by kernel_rfl) (of_content (rfl) hx5 (by first | rfl | omega | (simp; done) | (simp; omega))) (by kernel_rfl) (by kernel_rfl) (by kernel_rfl) (by kernel_rfl)) trivial)) (by kernel_rfl)) (by kernel_rfl) ?_
  have hrl7 : L.length = (L.set ((i : Int).toNat) (-1000001)).length := List.length_set.symm
  refine Eq.mpr (congrArg (fun z : Nat => Wp _ _ _ _ [(0, .y (.one (rowC k 0 z 0 S.length false))), (1, xi 1), (4, xi i)] (List.set (α := O) H2 k (.row true true 0 (0 + z) 1 ((L.set ((i : Int).toNat) (-1000001)).flatMap (enc NI)))) _) hrl7) ?_
  refine Wp.gen (cs := [R, pts k (rowO NI true 0 (L.set ((i : Int).toNat) (-1000001)))]) (Eq.mp (congrArg (fun z : Nat => On [R, pts k (.row true true 0 (0 + z) 1 ((L.set ((i : Int).toNat) (-1000001)).flatMap (enc NI)))] (List.set (α := O) H2 k (.row true true 0 (0 + z) 1 ((L.set ((i : Int).toNat) (-1000001)).flatMap (enc NI))))) hrl7) (On.put (.row true true 0 (0 + L.length) 1 ((L.set ((i : Int).toNat) (-1000001)).flatMap (enc NI))) hs3 1 rfl)) ?_
  intro H8 hs9
  refine Wp.skip ?_
  refine Wp.region [(1, xi (i + 1), H8)] [(0, .y (.one (rowC k 0 (L.set ((i : Int).toNat) (-1000001)).length 0 S.length false))), (1, xi 1), (4, xi (i + 1))] H8
    (cast (Jai (Ja (vals := [xi i, xi 1]) (H := H8) (op := .binOp .add 3 (.tmp 0) (.tmp 1) 3) (ty := 0) (r := xi (IntKind.wrap .i64 (i + 1))) (v := xi (i + 1)) (by kernel_rfl) (congrArg (fun z => xi z) ((wrap64 (by omega)).trans (by omega)))) trivial) (by kernel_rfl)) (by kernel_rfl) ?_
  exact ⟨(H8, (i + 1), (L.set ((i : Int).toNat) (-1000001))), by kernel_rfl, (⟨(On.pick [0, 1] [] (by kernel_rfl) hs9), by omega, by omega, by omega⟩), (by show (_ : Nat) < _; simp only []; omega)⟩
 ·
  refine rSq [(2, xi (S.length : Int), H2), (3, xb false, H2)] [(0, .y (.one (rowC k 0 L.length 0 S.length false))), (1, xi 1), (4, xi i), (8, xb false)] H2
    (cast (Jai (Jl (H := H2) (s := NI) (t := 22) (ty := 0) (pu := true) (capd := false) (id := k) (d := 0) (o := 0) (n := S.length) (l := L) (e := (S.length : Int)) (On.at hs3 1 rfl) (by kernel_rfl) (by first | rfl | omega | (simp; done) | (simp; omega))) (Jai (Ja (vals := [xi i, xi (S.length : Int)]) (H := H2) (op := .binOp .lss 3 (.tmp 0) (.tmp 1) 3) (ty := 0) (r := xb (decide ((i : Int) < (S.length : Int)))) (v := xb false) (by kernel_rfl) (congrArg (fun z => xb z) (decide_eq_false (by omega)))) trivial)) (by kernel_rfl)) (by kernel_rfl) ?_
  refine Wp.condF (by kernel_rfl) ?_
  refine Wp.exit ?_
  refine Eq.mpr (if_pos rfl) ?_
  refine ⟨Or.inl rfl, [], (by kernel_rfl), ?_⟩
  exact ⟨rfl, (On.pick [0] [1] (by kernel_rfl) hs3)⟩
theorem rload_0 (b nil cp0 : Bool) (S : List Int) (hsl : (S.length : Int) ≤ 4611686018427387904) (hand : Int) (aa0 nn0 pp0 aa1 nn1 pp1 aa2 nn2 pp2 : Bool) (l0 l1 l2 : List EN.T) (hzl0 : (l0.length : Int) ≤ 5864062014805) (hzl1 : (l1.length : Int) ≤ 5864062014805) (hzl2 : (l2.length : Int) ≤ 5864062014805) (ho : okW S = false) : PureC pg an 9 [.one (sv NI b nil cp0 S), .one (vi hand), .agg [sv EN aa0 nn0 pp0 l0, sv EN aa1 nn1 pp1 l1, sv EN aa2 nn2 pp2 l2]] [.agg [.sl false true true [] 0, vi 0, .sl false true true [] 0, .sl false true true [] 0, .sl false true true [] 0], .one (vi 20)] := by
  rcases rload b nil cp0 S hsl hand aa0 nn0 pp0 aa1 nn1 pp1 aa2 nn2 pp2 l0 l1 l2 hzl0 hzl1 hzl2 with ⟨a, h⟩ | ⟨a, c, h⟩ | ⟨a, c, d, h⟩ | ⟨a, c, d, e, h⟩ | ⟨a, c, d, e, g, i, h⟩
  · exact h
  all_goals (rw [ho] at a; exact absurd a (by simp))
theorem rload_1 (b nil cp0 : Bool) (S : List Int) (hsl : (S.length : Int) ≤ 4611686018427387904) (hand : Int) (aa0 nn0 pp0 aa1 nn1 pp1 aa2 nn2 pp2 : Bool) (l0 l1 l2 : List EN.T) (hzl0 : (l0.length : Int) ≤ 5864062014805) (hzl1 : (l1.length : Int) ≤ 5864062014805) (hzl2 : (l2.length : Int) ≤ 5864062014805) (ho : okW S = true) (hb : LoadBad l0 l1 l2 ∨ hand < 0 ∨ (S.length : Int) ≤ hand) : PureC pg an 9 [.one (sv NI b nil cp0 S), .one (vi hand), .agg [sv EN aa0 nn0 pp0 l0, sv EN aa1 nn1 pp1 l1, sv EN aa2 nn2 pp2 l2]] [.agg [.sl false true true [] 0, vi 0, .sl false true true [] 0, .sl false true true [] 0, .sl false true true [] 0], .one (vi 1)] := by
  rcases rload b nil cp0 S hsl hand aa0 nn0 pp0 aa1 nn1 pp1 aa2 nn2 pp2 l0 l1 l2 hzl0 hzl1 hzl2 with ⟨a, h⟩ | ⟨a, c, h⟩ | ⟨a, c, d, h⟩ | ⟨a, c, d, e, h⟩ | ⟨a, c, d, e, g, i, h⟩
  · rw [ho] at a; cases a
  · exact h
  · exact h
  all_goals (exfalso; rcases hb with hb | hb <;> first | exact hb d | omega)
theorem rload_2 (b nil cp0 : Bool) (S : List Int) (hsl : (S.length : Int) ≤ 4611686018427387904) (hand : Int) (aa0 nn0 pp0 aa1 nn1 pp1 aa2 nn2 pp2 : Bool) (l0 l1 l2 : List EN.T) (hzl0 : (l0.length : Int) ≤ 5864062014805) (hzl1 : (l1.length : Int) ≤ 5864062014805) (hzl2 : (l2.length : Int) ≤ 5864062014805) (ho : okW S = true) (hk : LoadOk l0 l1 l2) (hh : 0 ≤ hand ∧ hand < (S.length : Int)) (hb : 64 < (l0.length : Int) ∨ 64 < (l1.length : Int) ∨ 64 < (l2.length : Int)) : PureC pg an 9 [.one (sv NI b nil cp0 S), .one (vi hand), .agg [sv EN aa0 nn0 pp0 l0, sv EN aa1 nn1 pp1 l1, sv EN aa2 nn2 pp2 l2]] [.agg [.sl false true true [] 0, vi 0, .sl false true true [] 0, .sl false true true [] 0, .sl false true true [] 0], .one (vi 2)] := by
  rcases rload b nil cp0 S hsl hand aa0 nn0 pp0 aa1 nn1 pp1 aa2 nn2 pp2 l0 l1 l2 hzl0 hzl1 hzl2 with ⟨a, h⟩ | ⟨a, c, h⟩ | ⟨a, c, d, h⟩ | ⟨a, c, d, e, h⟩ | ⟨a, c, d, e, g, i, h⟩
  · rw [ho] at a; cases a
  · exfalso; omega
  · exact absurd hk d
  · exact h
  · exfalso; omega
theorem rload_4 (b nil cp0 : Bool) (S : List Int) (hsl : (S.length : Int) ≤ 4611686018427387904) (hand : Int) (aa0 nn0 pp0 aa1 nn1 pp1 aa2 nn2 pp2 : Bool) (l0 l1 l2 : List EN.T) (hzl0 : (l0.length : Int) ≤ 5864062014805) (hzl1 : (l1.length : Int) ≤ 5864062014805) (hzl2 : (l2.length : Int) ≤ 5864062014805) (ho : okW S = true) (hk : LoadOk l0 l1 l2) (hh : 0 ≤ hand ∧ hand < (S.length : Int)) (hb : (l0.length : Int) ≤ 64 ∧ (l1.length : Int) ≤ 64 ∧ (l2.length : Int) ≤ 64) : ∃ nl cp fy0 fz0 fy1 fz1 fy2 fz2 : Bool, PureC pg an 9 [.one (sv NI b nil cp0 S), .one (vi hand), .agg [sv EN aa0 nn0 pp0 l0, sv EN aa1 nn1 pp1 l1, sv EN aa2 nn2 pp2 l2]] [.agg [sv NI false nl cp S, vi hand, sv EN false fy0 fz0 l0, sv EN false fy1 fz1 l1, sv EN false fy2 fz2 l2], .one (vi 0)] := by
  rcases rload b nil cp0 S hsl hand aa0 nn0 pp0 aa1 nn1 pp1 aa2 nn2 pp2 l0 l1 l2 hzl0 hzl1 hzl2 with ⟨a, h⟩ | ⟨a, c, h⟩ | ⟨a, c, d, h⟩ | ⟨a, c, d, e, h⟩ | ⟨a, c, d, e, g, i, h⟩
  · rw [ho] at a; cases a
  · exfalso; omega
  · exact absurd hk d
  · exfalso; omega
  · exact h
end Go.Proofs.Ytjdnhbnpdbpgbaa
