/-
  Wheel: Marked, Bears, Alike. (Printed by sx/r02e.py.)
-/
import Derived.Test.YtoieblpjklbmoaaR02EF
namespace Go.Proofs.Ytoieblpjklbmoaa.E
open Go.Lg
set_option linter.unusedVariables false
set_option maxRecDepth 100000
set_option maxHeartbeats 8000000
set_option linter.unusedSimpArgs false
theorem marked_ok (R : HP) (H : Go.Lg.Heap) (k : Nat) (S : List Int) (mk : Int) (hs : On [R, pts k (rowO NI true 0 S)] H) (hl : (S.length : Int) ≤ 1000000) (hm : 0 ≤ mk ∧ mk ≤ 10) : ∃ rs H', Runs pg an 22 [.one (rowC k 0 S.length 0 S.length false), .one (vi mk)] H rs H' ∧ rs = [] ∧ On [R, pts k (.row true true 0 (0 + S.length) 1 ((List.replicate S.length (-mk - 1000000)).flatMap (enc NI)))] H' := by
 refine Runs.of (fn := Try.f22) Try.func22 rfl (by kernel_rfl) [(0, .y (.one (rowC k 0 S.length 0 S.length false))), (1, xi mk)] (by kernel_rfl) ?_
 refine Wp.regionSeq [] [(0, .y (.one (rowC k 0 S.length 0 S.length false))), (1, xi mk), (4, xi 0)] H
   (cast trivial (by kernel_rfl)) (by kernel_rfl) ?_
 refine Wp.block ?_
 refine Wp.loop (T := Go.Lg.Heap × Int × List Int) (fun (t : Go.Lg.Heap × Int × List Int) => match t with | (H2, i, L) => (((S.length : Int) - i).toNat : Nat)) (fun (t : Go.Lg.Heap × Int × List Int) => match t with | (H2, i, L) => ([(0, .y (.one (rowC k 0 L.length 0 S.length false))), (1, xi mk), (4, xi i)] : Env)) (fun (t : Go.Lg.Heap × Int × List Int) => match t with | (H2, i, L) => (H2 : Go.Lg.Heap))
   (fun (t : Go.Lg.Heap × Int × List Int) => match t with | (H2, i, L) => (On [R, pts k (rowO NI true 0 L)] H2 ∧ (0 ≤ i) ∧ (i ≤ (S.length : Int)) ∧ ((L.length : Int) = S.length) ∧ (L.take i.toNat = List.replicate i.toNat (-mk - 1000000)) : Prop)) (H, 0, S) (by kernel_rfl) (⟨(On.pick [0, 1] [] (by kernel_rfl) hs), by omega, by omega, by omega, by simp⟩) ?_
 rintro ⟨H2, i, L⟩ ⟨hs3, h1, h2, h3, h4⟩
 show Wp _ _ _ _ [(0, .y (.one (rowC k 0 L.length 0 S.length false))), (1, xi mk), (4, xi i)] H2 _
 refine Wp.seq ?_
 by_cases c4 : (i : Int) < (S.length : Int)
 ·
  refine Wp.regionSeq [(2, xi (S.length : Int), H2), (3, xb true, H2)] [(0, .y (.one (rowC k 0 L.length 0 S.length false))), (1, xi mk), (4, xi i), (8, xb true)] H2
    (cast (And.intro (or_len (P := pg) (A := an) (H := H2) (s := NI) (t := 22) (ty := 0) (pu := true) (capd := false) (id := k) (d := 0) (o := 0) (n := S.length) (l := L) (e := (S.length : Int)) (On.at hs3 1 rfl) (by kernel_rfl) (by first | rfl | omega | (simp only [List.length_nil]; omega) | (simp; done) | (simp; omega))) (And.intro (ob_raw (P := pg) (A := an) (vals := [xi i, xi (S.length : Int)]) (H := H2) (op := .binOp .lss 3 (.tmp 0) (.tmp 1) 3) (ty := 0) (r := xb (decide ((i : Int) < (S.length : Int)))) (v := xb true) (by kernel_rfl) (congrArg (fun z => xb z) (decide_eq_true (by omega)))) trivial)) (by kernel_rfl)) (by kernel_rfl) ?_
  refine Wp.condT (by kernel_rfl) ?_
  refine Wp.skip ?_
  refine Wp.seq ?_
  refine Wp.block ?_
  obtain ⟨x5, hx5⟩ : ∃ x : Int, ((L.drop 0).take S.length)[(i : Int).toNat]? = some x := get_of (by first | rfl | omega | (simp only [List.length_nil]; omega) | (simp; done) | (simp; omega))
  refine Wp.regionK [(3, xi (-mk - 1000000), H2), (4, .y (.one (raC k 0 L.length 1 ((i : Int).toNat) 0)), H2), (5, .tup [], (List.set (α := O) H2 k (.row true true 0 (0 + L.length) 1 ((L.set ((i : Int).toNat) (-mk - 1000000)).flatMap (enc NI)))))] [(0, .y (.one (rowC k 0 L.length 0 S.length false))), (1, xi mk), (4, xi i)] (List.set (α := O) H2 k (.row true true 0 (0 + L.length) 1 ((L.set ((i : Int).toNat) (-mk - 1000000)).flatMap (enc NI))))
    (cast (And.intro (ob_raw (P := pg) (A := an) (vals := [xi (-1000000), xi mk]) (H := H2) (op := .binOp .sub 3 (.tmp 0) (.tmp 1) 3) (ty := 0) (r := xi (IntKind.wrap .i64 ((-1000000) - mk))) (v := xi (-mk - 1000000)) (by kernel_rfl) (congrArg (fun z => xi z) ((wrap64 (by omega)).trans (by omega)))) (And.intro (or_index (P := pg) (A := an) (H := H2) (s := NI) (t := 22) (el := 3) (ty := 0) (pu := true) (capd := false) (id := k) (d := 0) (o := 0) (n := S.length) (j := ((i : Int).toNat)) (l := L) (i := i) (On.at hs3 1 rfl) Try.underlying22 (by kernel_rfl) (by omega) (by first | rfl | omega | (simp only [List.length_nil]; omega) | (simp; done) | (simp; omega)) (by first | rfl | omega | (simp only [List.length_nil]; omega) | (simp; done) | (simp; omega)) (by first | rfl | omega | (simp only [List.length_nil]; omega) | (simp; done) | (simp; omega))) (And.intro (or_store (P := pg) (A := an) (H := H2) (s := NI) (t := 3) (ty := 0) (pu := true) (id := k) (d := 0) (j := ((i : Int).toNat)) (o := 0) (l := L) (x := x5) (x' := (-mk - 1000000)) (v := .one (vi (-mk - 1000000))) (On.at hs3 1 rfl) (by kernel_rfl) (of_content (L := L) (o := 0) (n := S.length) (rfl) hx5 (by first | rfl | omega | (simp only [List.length_nil]; omega) | (simp; done) | (simp; omega))) (by kernel_rfl) (by kernel_rfl) (by kernel_rfl) (by kernel_rfl)) trivial))) (by kernel_rfl)) (by kernel_rfl) ?_
  have hrl7 : L.length = (L.set ((i : Int).toNat) (-mk - 1000000)).length := List.length_set.symm
  refine Eq.mpr (congrArg (fun z : Nat => Wp _ _ _ _ [(0, .y (.one (rowC k 0 z 0 S.length false))), (1, xi mk), (4, xi i)] (List.set (α := O) H2 k (.row true true 0 (0 + z) 1 ((L.set ((i : Int).toNat) (-mk - 1000000)).flatMap (enc NI)))) _) hrl7) ?_
  refine Wp.gen (cs := [R, pts k (rowO NI true 0 (L.set ((i : Int).toNat) (-mk - 1000000)))]) (Eq.mp (congrArg (fun z : Nat => On [R, pts k (.row true true 0 (0 + z) 1 ((L.set ((i : Int).toNat) (-mk - 1000000)).flatMap (enc NI)))] (List.set (α := O) H2 k (.row true true 0 (0 + z) 1 ((L.set ((i : Int).toNat) (-mk - 1000000)).flatMap (enc NI))))) hrl7) (On.put (.row true true 0 (0 + L.length) 1 ((L.set ((i : Int).toNat) (-mk - 1000000)).flatMap (enc NI))) hs3 1 rfl)) ?_
  intro H8 hs9
  refine Wp.skip ?_
  refine Wp.region [(1, xi (i + 1), H8)] [(0, .y (.one (rowC k 0 (L.set ((i : Int).toNat) (-mk - 1000000)).length 0 S.length false))), (1, xi mk), (4, xi (i + 1))] H8
    (cast (And.intro (ob_raw (P := pg) (A := an) (vals := [xi i, xi 1]) (H := H8) (op := .binOp .add 3 (.tmp 0) (.tmp 1) 3) (ty := 0) (r := xi (IntKind.wrap .i64 (i + 1))) (v := xi (i + 1)) (by kernel_rfl) (congrArg (fun z => xi z) ((wrap64 (by omega)).trans (by omega)))) trivial) (by kernel_rfl)) (by kernel_rfl) ?_
  exact ⟨(H8, (i + 1), (L.set ((i : Int).toNat) (-mk - 1000000))), by kernel_rfl, (⟨(On.pick [0, 1] [] (by kernel_rfl) hs9), by omega, by omega, (by rw [List.length_set]; omega), rep_next h1 (by omega) h4⟩), (by show (_ : Nat) < _; simp only []; omega)⟩
 ·
  refine Wp.regionSeq [(2, xi (S.length : Int), H2), (3, xb false, H2)] [(0, .y (.one (rowC k 0 L.length 0 S.length false))), (1, xi mk), (4, xi i), (8, xb false)] H2
    (cast (And.intro (or_len (P := pg) (A := an) (H := H2) (s := NI) (t := 22) (ty := 0) (pu := true) (capd := false) (id := k) (d := 0) (o := 0) (n := S.length) (l := L) (e := (S.length : Int)) (On.at hs3 1 rfl) (by kernel_rfl) (by first | rfl | omega | (simp only [List.length_nil]; omega) | (simp; done) | (simp; omega))) (And.intro (ob_raw (P := pg) (A := an) (vals := [xi i, xi (S.length : Int)]) (H := H2) (op := .binOp .lss 3 (.tmp 0) (.tmp 1) 3) (ty := 0) (r := xb (decide ((i : Int) < (S.length : Int)))) (v := xb false) (by kernel_rfl) (congrArg (fun z => xb z) (decide_eq_false (by omega)))) trivial)) (by kernel_rfl)) (by kernel_rfl) ?_
  refine Wp.condF (by kernel_rfl) ?_
  refine Wp.exit ?_
  refine Eq.mpr (if_pos rfl) ?_
  refine ⟨Or.inl rfl, [], (by kernel_rfl), ?_⟩
  have hL := rep_end h1 (by omega) h3 h2 h4
  exact ⟨rfl, by have h9 := (On.pick [0, 1] [] (by kernel_rfl) hs3); rw [show rowO NI true 0 L = .row true true 0 (0 + S.length) 1 ((List.replicate S.length (-mk - 1000000)).flatMap (enc NI)) from by rw [hL]; unfold rowO; rw [List.length_replicate]; rfl] at h9; exact h9⟩
theorem marked_n (R : HP) (H : Go.Lg.Heap) (mk : Int) (hs : On [R] H) : ∃ rs H', Runs pg an 22 [.one (.sl false true true [] 0), .one (vi mk)] H rs H' ∧ rs = [] ∧ On [R] H' := by
 refine Runs.of (fn := Try.f22) Try.func22 rfl (by kernel_rfl) [(0, .y (.one (.sl false true true [] 0))), (1, xi mk)] (by kernel_rfl) ?_
 refine Wp.regionSeq [] [(0, .y (.one (.sl false true true [] 0))), (1, xi mk), (4, xi 0)] H
   (cast trivial (by kernel_rfl)) (by kernel_rfl) ?_
 refine Wp.block ?_
 refine Wp.loop (T := Go.Lg.Heap × Int) (fun (t : Go.Lg.Heap × Int) => match t with | (H2, i) => ((1 - i).toNat : Nat)) (fun (t : Go.Lg.Heap × Int) => match t with | (H2, i) => ([(0, .y (.one (.sl false true true [] 0))), (1, xi mk), (4, xi i)] : Env)) (fun (t : Go.Lg.Heap × Int) => match t with | (H2, i) => (H2 : Go.Lg.Heap))
   (fun (t : Go.Lg.Heap × Int) => match t with | (H2, i) => (On [R] H2 ∧ (i = 0) : Prop)) (H, 0) (by kernel_rfl) (⟨(On.pick [0] [] (by kernel_rfl) hs), rfl⟩) ?_
 rintro ⟨H2, i⟩ ⟨hs3, h1⟩
 show Wp _ _ _ _ [(0, .y (.one (.sl false true true [] 0))), (1, xi mk), (4, xi i)] H2 _
 refine Wp.seq ?_
 refine Wp.regionSeq [(3, xb false, H2)] [(0, .y (.one (.sl false true true [] 0))), (1, xi mk), (4, xi i), (8, xb false)] H2
   (cast (And.intro (ob_raw (P := pg) (A := an) (vals := [xi i, xi 0]) (H := H2) (op := .binOp .lss 3 (.tmp 0) (.tmp 1) 3) (ty := 0) (r := xb (decide ((i : Int) < 0))) (v := xb false) (by kernel_rfl) (congrArg (fun z => xb z) (decide_eq_false (by omega)))) trivial) (by kernel_rfl)) (by kernel_rfl) ?_
 refine Wp.condF (by kernel_rfl) ?_
 refine Wp.exit ?_
 refine Eq.mpr (if_pos rfl) ?_
 refine ⟨Or.inl rfl, [], (by kernel_rfl), ?_⟩
 exact ⟨rfl, (On.pick [0] [] (by kernel_rfl) hs3)⟩
theorem bears_t (b nil capd : Bool) (q : Nat) (mk : Int) (hl : ((List.replicate q (-mk - 1000000)).length : Int) ≤ 1000000) (hm : 0 ≤ mk ∧ mk ≤ 10)  : PureC pg an 24 [.one (sv NI b nil capd (List.replicate q (-mk - 1000000))), .one (vi mk)] [.one (vb true)] := by
 suffices h : ∃ rs H', Runs pg an 24 [.one (sv NI b nil capd (List.replicate q (-mk - 1000000))), .one (vi mk)] [] rs H' ∧ rs.mapM (backY H') = some [.one (vb true)] by
  obtain ⟨rs, H', h1, h2⟩ := h
  exact ⟨rs, H', h1, h2⟩
 refine Runs.of (fn := Try.f24) Try.func24 rfl (by kernel_rfl) [(0, .y (.one (sv NI b nil capd (List.replicate q (-mk - 1000000))))), (1, xi mk)] (by kernel_rfl) ?_
 refine Wp.regionSeq [] [(0, .y (.one (sv NI b nil capd (List.replicate q (-mk - 1000000))))), (1, xi mk)] []
   (cast trivial (by kernel_rfl)) (by kernel_rfl) ?_
 refine Wp.seq ?_
 refine Wp.regionSeq [] [(0, .y (.one (sv NI b nil capd (List.replicate q (-mk - 1000000))))), (1, xi mk), (5, xi 0)] []
   (cast trivial (by kernel_rfl)) (by kernel_rfl) ?_
 refine Wp.block ?_
 refine Wp.loop (T := Go.Lg.Heap × Int) (fun (t : Go.Lg.Heap × Int) => match t with | (H2, i) => ((((List.replicate q (-mk - 1000000)).length : Int) - i).toNat : Nat)) (fun (t : Go.Lg.Heap × Int) => match t with | (H2, i) => ([(0, .y (.one (sv NI b nil capd (List.replicate q (-mk - 1000000))))), (1, xi mk), (5, xi i)] : Env)) (fun (t : Go.Lg.Heap × Int) => match t with | (H2, i) => (H2 : Go.Lg.Heap))
   (fun (t : Go.Lg.Heap × Int) => match t with | (H2, i) => (On [] H2 ∧ (0 ≤ i) ∧ (i ≤ ((List.replicate q (-mk - 1000000)).length : Int)) : Prop)) ([], 0) (by kernel_rfl) (⟨(On.pick [] [] (by kernel_rfl) (On.nil [])), by omega, by omega⟩) ?_
 rintro ⟨H2, i⟩ ⟨hs3, h1, h2⟩
 show Wp _ _ _ _ [(0, .y (.one (sv NI b nil capd (List.replicate q (-mk - 1000000))))), (1, xi mk), (5, xi i)] H2 _
 refine Wp.seq ?_
 by_cases c4 : (i : Int) < ((List.replicate q (-mk - 1000000)).length : Int)
 ·
  refine Wp.regionSeq [(3, xb true, H2)] [(0, .y (.one (sv NI b nil capd (List.replicate q (-mk - 1000000))))), (1, xi mk), (5, xi i), (9, xb true)] H2
    (cast (And.intro (ob_raw (P := pg) (A := an) (vals := [xi i, xi ((List.replicate q (-mk - 1000000)).length : Int)]) (H := H2) (op := .binOp .lss 3 (.tmp 0) (.tmp 1) 3) (ty := 0) (r := xb (decide ((i : Int) < ((List.replicate q (-mk - 1000000)).length : Int)))) (v := xb true) (by kernel_rfl) (congrArg (fun z => xb z) (decide_eq_true (by omega)))) trivial) (by kernel_rfl)) (by kernel_rfl) ?_
  refine Wp.condT (by kernel_rfl) ?_
  refine Wp.skip ?_
  refine Wp.seq ?_
  refine Wp.block ?_
  obtain ⟨x5, hx5⟩ : ∃ x, (List.replicate q (-mk - 1000000))[(i : Int).toNat]? = some x := get_of (by omega)
  have hv6 : x5 = -mk - 1000000 := rep_el hx5
  refine Wp.regionSeq [(2, .y (.one (.rd ([vi x5] ++ ((List.replicate q (-mk - 1000000)).drop ((i : Int).toNat + 1)).flatMap (enc NI)))), H2), (5, xi (-mk - 1000000), H2), (6, xb false, H2)] [(0, .y (.one (sv NI b nil capd (List.replicate q (-mk - 1000000))))), (1, xi mk), (5, xi i), (18, xb false)] H2
    (cast (And.intro (ob_index (P := pg) (A := an) (H := H2) (s := NI) (b := b) (nil := nil) (capd := capd) (t := 22) (el := 3) (i := i) Try.underlying22 (by kernel_rfl) (by kernel_rfl) (by omega) hx5) (And.intro (ob_raw (P := pg) (A := an) (vals := [xi (-1000000), xi mk]) (H := H2) (op := .binOp .sub 3 (.tmp 0) (.tmp 1) 3) (ty := 0) (r := xi (IntKind.wrap .i64 ((-1000000) - mk))) (v := xi (-mk - 1000000)) (by kernel_rfl) (congrArg (fun z => xi z) ((wrap64 (by omega)).trans (by omega)))) (And.intro (ob_raw (P := pg) (A := an) (vals := [xi x5, xi (-mk - 1000000)]) (H := H2) (op := .binOp .neq 3 (.tmp 0) (.tmp 1) 3) (ty := 0) (r := xb ((x5 : Int) != (-mk - 1000000))) (v := xb false) (by kernel_rfl) (congrArg (fun z => xb z) (bne_f (by omega)))) trivial))) (by kernel_rfl)) (by kernel_rfl) ?_
  refine Wp.condF (by kernel_rfl) ?_
  refine Wp.skip ?_
  refine Wp.region [(1, xi (i + 1), H2)] [(0, .y (.one (sv NI b nil capd (List.replicate q (-mk - 1000000))))), (1, xi mk), (5, xi (i + 1))] H2
    (cast (And.intro (ob_raw (P := pg) (A := an) (vals := [xi i, xi 1]) (H := H2) (op := .binOp .add 3 (.tmp 0) (.tmp 1) 3) (ty := 0) (r := xi (IntKind.wrap .i64 (i + 1))) (v := xi (i + 1)) (by kernel_rfl) (congrArg (fun z => xi z) ((wrap64 (by omega)).trans (by omega)))) trivial) (by kernel_rfl)) (by kernel_rfl) ?_
  exact ⟨(H2, (i + 1)), by kernel_rfl, (⟨(On.pick [] [] (by kernel_rfl) hs3), by omega, by omega⟩), (by show (_ : Nat) < _; simp only []; omega)⟩
 ·
  refine Wp.regionSeq [(3, xb false, H2)] [(0, .y (.one (sv NI b nil capd (List.replicate q (-mk - 1000000))))), (1, xi mk), (5, xi i), (9, xb false)] H2
    (cast (And.intro (ob_raw (P := pg) (A := an) (vals := [xi i, xi ((List.replicate q (-mk - 1000000)).length : Int)]) (H := H2) (op := .binOp .lss 3 (.tmp 0) (.tmp 1) 3) (ty := 0) (r := xb (decide ((i : Int) < ((List.replicate q (-mk - 1000000)).length : Int)))) (v := xb false) (by kernel_rfl) (congrArg (fun z => xb z) (decide_eq_false (by omega)))) trivial) (by kernel_rfl)) (by kernel_rfl) ?_
  refine Wp.condF (by kernel_rfl) ?_
  refine Wp.exit ?_
  refine Eq.mpr (if_pos rfl) ?_
  refine Wp.regionSeq [] [(4, xb true)] H2
    (cast trivial (by kernel_rfl)) (by kernel_rfl) ?_
  refine Wp.ret ?_
  refine ⟨Or.inr rfl, [.one (vb true)], (by kernel_rfl), ?_⟩
  exact (by kernel_rfl)
theorem alike_t (b nil capd b2 nil2 capd2 : Bool) (S : List Int) (hl : (S.length : Int) ≤ 1000000)  : PureC pg an 20 [.one (sv NI b nil capd S), .one (sv NI b2 nil2 capd2 S)] [.one (vb true)] := by
 suffices h : ∃ rs H', Runs pg an 20 [.one (sv NI b nil capd S), .one (sv NI b2 nil2 capd2 S)] [] rs H' ∧ rs.mapM (backY H') = some [.one (vb true)] by
  obtain ⟨rs, H', h1, h2⟩ := h
  exact ⟨rs, H', h1, h2⟩
 refine Runs.of (fn := Try.f20) Try.func20 rfl (by kernel_rfl) [(0, .y (.one (sv NI b nil capd S))), (1, .y (.one (sv NI b2 nil2 capd2 S)))] (by kernel_rfl) ?_
 refine Wp.regionSeq [] [(0, .y (.one (sv NI b nil capd S))), (1, .y (.one (sv NI b2 nil2 capd2 S)))] []
   (cast trivial (by kernel_rfl)) (by kernel_rfl) ?_
 refine Wp.seq ?_
 refine Wp.regionSeq [(4, xb false, [])] [(0, .y (.one (sv NI b nil capd S))), (1, .y (.one (sv NI b2 nil2 capd2 S))), (10, xb false)] []
   (cast (And.intro (ob_raw (P := pg) (A := an) (vals := [xi (S.length : Int), xi (S.length : Int)]) (H := []) (op := .binOp .neq 3 (.tmp 0) (.tmp 1) 3) (ty := 0) (r := xb (((S.length : Int) : Int) != (S.length : Int))) (v := xb false) (by kernel_rfl) (congrArg (fun z => xb z) (bne_f (by omega)))) trivial) (by kernel_rfl)) (by kernel_rfl) ?_
 refine Wp.condF (by kernel_rfl) ?_
 refine Wp.skip ?_
 refine Wp.seq ?_
 refine Wp.regionSeq [] [(0, .y (.one (sv NI b nil capd S))), (1, .y (.one (sv NI b2 nil2 capd2 S))), (5, xi 0)] []
   (cast trivial (by kernel_rfl)) (by kernel_rfl) ?_
 refine Wp.block ?_
 refine Wp.loop (T := Go.Lg.Heap × Int) (fun (t : Go.Lg.Heap × Int) => match t with | (H2, i) => (((S.length : Int) - i).toNat : Nat)) (fun (t : Go.Lg.Heap × Int) => match t with | (H2, i) => ([(0, .y (.one (sv NI b nil capd S))), (1, .y (.one (sv NI b2 nil2 capd2 S))), (5, xi i)] : Env)) (fun (t : Go.Lg.Heap × Int) => match t with | (H2, i) => (H2 : Go.Lg.Heap))
   (fun (t : Go.Lg.Heap × Int) => match t with | (H2, i) => (On [] H2 ∧ (0 ≤ i) ∧ (i ≤ (S.length : Int)) : Prop)) ([], 0) (by kernel_rfl) (⟨(On.pick [] [] (by kernel_rfl) (On.nil [])), by omega, by omega⟩) ?_
 rintro ⟨H2, i⟩ ⟨hs3, h1, h2⟩
 show Wp _ _ _ _ [(0, .y (.one (sv NI b nil capd S))), (1, .y (.one (sv NI b2 nil2 capd2 S))), (5, xi i)] H2 _
 refine Wp.seq ?_
 by_cases c4 : (i : Int) < (S.length : Int)
 ·
  refine Wp.regionSeq [(3, xb true, H2)] [(0, .y (.one (sv NI b nil capd S))), (1, .y (.one (sv NI b2 nil2 capd2 S))), (5, xi i), (14, xb true)] H2
    (cast (And.intro (ob_raw (P := pg) (A := an) (vals := [xi i, xi (S.length : Int)]) (H := H2) (op := .binOp .lss 3 (.tmp 0) (.tmp 1) 3) (ty := 0) (r := xb (decide ((i : Int) < (S.length : Int)))) (v := xb true) (by kernel_rfl) (congrArg (fun z => xb z) (decide_eq_true (by omega)))) trivial) (by kernel_rfl)) (by kernel_rfl) ?_
  refine Wp.condT (by kernel_rfl) ?_
  refine Wp.skip ?_
  refine Wp.seq ?_
  refine Wp.block ?_
  obtain ⟨x5, hx5⟩ : ∃ x, S[(i : Int).toNat]? = some x := get_of (by omega)
  refine Wp.regionSeq [(2, .y (.one (.rd ([vi x5] ++ (S.drop ((i : Int).toNat + 1)).flatMap (enc NI)))), H2), (6, .y (.one (.rd ([vi x5] ++ (S.drop ((i : Int).toNat + 1)).flatMap (enc NI)))), H2), (8, xb false, H2)] [(0, .y (.one (sv NI b nil capd S))), (1, .y (.one (sv NI b2 nil2 capd2 S))), (5, xi i), (25, xb false)] H2
    (cast (And.intro (ob_index (P := pg) (A := an) (H := H2) (s := NI) (b := b) (nil := nil) (capd := capd) (t := 22) (el := 3) (i := i) Try.underlying22 (by kernel_rfl) (by kernel_rfl) (by omega) hx5) (And.intro (ob_index (P := pg) (A := an) (H := H2) (s := NI) (b := b2) (nil := nil2) (capd := capd2) (t := 22) (el := 3) (i := i) Try.underlying22 (by kernel_rfl) (by kernel_rfl) (by omega) hx5) (And.intro (ob_raw (P := pg) (A := an) (vals := [xi x5, xi x5]) (H := H2) (op := .binOp .neq 3 (.tmp 0) (.tmp 1) 3) (ty := 0) (r := xb ((x5 : Int) != x5)) (v := xb false) (by kernel_rfl) (congrArg (fun z => xb z) (bne_f (by omega)))) trivial))) (by kernel_rfl)) (by kernel_rfl) ?_
  refine Wp.condF (by kernel_rfl) ?_
  refine Wp.skip ?_
  refine Wp.region [(1, xi (i + 1), H2)] [(0, .y (.one (sv NI b nil capd S))), (1, .y (.one (sv NI b2 nil2 capd2 S))), (5, xi (i + 1))] H2
    (cast (And.intro (ob_raw (P := pg) (A := an) (vals := [xi i, xi 1]) (H := H2) (op := .binOp .add 3 (.tmp 0) (.tmp 1) 3) (ty := 0) (r := xi (IntKind.wrap .i64 (i + 1))) (v := xi (i + 1)) (by kernel_rfl) (congrArg (fun z => xi z) ((wrap64 (by omega)).trans (by omega)))) trivial) (by kernel_rfl)) (by kernel_rfl) ?_
  exact ⟨(H2, (i + 1)), by kernel_rfl, (⟨(On.pick [] [] (by kernel_rfl) hs3), by omega, by omega⟩), (by show (_ : Nat) < _; simp only []; omega)⟩
 ·
  refine Wp.regionSeq [(3, xb false, H2)] [(0, .y (.one (sv NI b nil capd S))), (1, .y (.one (sv NI b2 nil2 capd2 S))), (5, xi i), (14, xb false)] H2
    (cast (And.intro (ob_raw (P := pg) (A := an) (vals := [xi i, xi (S.length : Int)]) (H := H2) (op := .binOp .lss 3 (.tmp 0) (.tmp 1) 3) (ty := 0) (r := xb (decide ((i : Int) < (S.length : Int)))) (v := xb false) (by kernel_rfl) (congrArg (fun z => xb z) (decide_eq_false (by omega)))) trivial) (by kernel_rfl)) (by kernel_rfl) ?_
  refine Wp.condF (by kernel_rfl) ?_
  refine Wp.exit ?_
  refine Eq.mpr (if_pos rfl) ?_
  refine Wp.regionSeq [] [(4, xb true)] H2
    (cast trivial (by kernel_rfl)) (by kernel_rfl) ?_
  refine Wp.ret ?_
  refine ⟨Or.inr rfl, [.one (vb true)], (by kernel_rfl), ?_⟩
  exact (by kernel_rfl)
end Go.Proofs.Ytoieblpjklbmoaa.E
