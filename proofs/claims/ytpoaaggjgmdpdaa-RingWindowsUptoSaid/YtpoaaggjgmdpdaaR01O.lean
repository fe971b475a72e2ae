/-
  Ring: the law of the windows. (Printed by sx/r01s.py.)
-/
import Derived.Test.YtpoaaggjgmdpdaaR01N
namespace Go.Proofs.Ytpoaaggjgmdpdaa
open Go.Lg
set_option linter.unusedVariables false
set_option maxRecDepth 100000
set_option maxHeartbeats 8000000
set_option linter.unusedSimpArgs false
theorem win_bound {s : Sh} {cp : Bool} {r k : Nat} {l : List Int} {ws : List (Nat × List Int)} {i : Nat} {p q : Nat × List Int} (hW : ws.map (·.2) = wins r k l) (he : winC NI cp p = winC NI cp q) (hp : ws[i]? = some p) : q.2.length ≤ r := by
  unfold winC rowC at he
  injection he with _ h1 _ _ _
  have := wins_le (r := r) (k := k) (l := l) (w := p.2) (by rw [← hW]; exact List.mem_map.2 ⟨p, List.mem_of_getElem? hp, rfl⟩)
  omega
theorem win_eq {W : List (List Int)} {us vs : List (Nat × List Int)} {i : Nat} {p q : Nat × List Int} (h1 : us.map (·.2) = W) (h2 : vs.map (·.2) = W) (hp : us[i]? = some p) (hq : vs[i]? = some q) : p.2 = q.2 := by
  have e1 : (us.map (·.2))[i]? = some p.2 := by rw [List.getElem?_map, hp]; rfl
  have e2 : (vs.map (·.2))[i]? = some q.2 := by rw [List.getElem?_map, hq]; rfl
  rw [h1] at e1; rw [h2] at e2
  exact Option.some.inj (e1.symm.trans e2)
theorem mark_step {us : List (Nat × List Int)} {i : Int} {q : Nat × List Int} {M : List Int} (h : ∀ (j : Nat) (q : Nat × List Int), (j : Int) < i → us[j]? = some q → ∀ x ∈ q.2, x = -770000 - (j : Int)) (hi : 0 ≤ i) (hM : ∀ x ∈ M, x = -770000 - i) :
    ∀ (j : Nat) (p : Nat × List Int), (j : Int) < i + 1 → (us.set i.toNat (q.1, M))[j]? = some p → ∀ x ∈ p.2, x = -770000 - (j : Int) := by
  intro j p hj hp
  rw [List.getElem?_set] at hp
  split at hp
  · rename_i e
    split at hp
    · cases hp
      intro x hx
      have := hM x hx
      omega
    · cases hp
  · exact h j p (by omega) hp

theorem fn4 (b nil capd : Bool) (l : List Int) (room : Int) (h1 : (l.length : Int) ≤ 1048576)  : PureC pg an 4 [.one (sv NI b nil capd l), .one (vi room)] [.one (vb true)] := by
 suffices h : ∃ rs H', Runs pg an 4 [.one (sv NI b nil capd l), .one (vi room)] [] rs H' ∧ rs.mapM (backY H') = some [.one (vb true)] by
  obtain ⟨rs, H', h1, h2⟩ := h
  exact ⟨rs, H', h1, h2⟩
 refine Runs.of (fn := Try.f4) Try.func4 rfl (by kernel_rfl) [(0, .y (.one (sv NI b nil capd l))), (1, xi room)] (by kernel_rfl) ?_
 refine Wp.regionSeq [] [(0, .y (.one (sv NI b nil capd l))), (1, xi room)] []
   (cast trivial (by kernel_rfl)) (by kernel_rfl) ?_
 refine Wp.regionSeq [] [(0, .y (.one (sv NI b nil capd l))), (1, xi room), (5, .y (.one (.sl false true true [] 0)))] []
   (cast trivial (by kernel_rfl)) (by kernel_rfl) ?_
 by_cases c1 : (0 : Int) < (l.length : Int)
 ·
  obtain ⟨n2, hn2⟩ : ∃ n, n = List.length ([] : Go.Lg.Heap) := ⟨_, rfl⟩
  refine Wp.regionSeq [(2, .y (.one (rowC n2 0 l.length 0 l.length false)), ([] ++ [rowO NI true 0 l]))] [(0, .y (.one (sv NI b nil capd l))), (1, xi room), (5, .y (.one (rowC n2 0 l.length 0 l.length false)))] ([] ++ [rowO NI true 0 l])
    (cast (And.intro (or_append_new (P := pg) (A := an) (H := []) (s := NI) (t := 22) (u := 22) (el := 3) (by_ := 8) (z := [vi 0]) (ty := 0) (b' := false) (nil' := true) (pu := true) (puy := true) (m := l.length) (n' := l.length) (k := n2) (nl := 0) (l := ([] : List Int)) (lm := l) (l' := l) (y := sv NI b nil capd l) hn2 (by first | rfl | omega | (simp only [List.length_nil]; omega) | (simp; done) | (simp; omega)) (by kernel_rfl) (slCells_slO (H := []) (s := NI) (b := b) (nil := nil) (capd := capd) (l := l) (n := l.length) (by first | rfl | omega | (simp only [List.length_nil]; omega) | (simp; done) | (simp; omega))) (by kernel_rfl) (by kernel_rfl) (by kernel_rfl) (by kernel_rfl) (by kernel_rfl) (by kernel_rfl) (by kernel_rfl) (by first | rfl | omega | (simp only [List.length_nil]; omega) | (simp; done) | (simp; omega)) (by first | rfl | omega | (simp only [List.length_nil]; omega) | (simp; done) | (simp; omega)) (by omega) (by omega) (List.nil_append _) (by first | rfl | omega | (simp only [List.length_append, List.length_nil]; omega) | (simp; done) | (simp; omega))) trivial) (by kernel_rfl)) (by kernel_rfl) ?_
  refine Wp.gen (cs := [pts n2 (rowO NI true 0 l)]) (On.new' hn2 (rowO NI true 0 l) (On.nil [])) ?_
  intro H3 hs4
  by_cases c5 : (room : Int) < 1
  ·
   obtain ⟨_, H6, hr7, rfl, hs8⟩ := windows_low _ (H3 : Go.Lg.Heap) (On.call [] [0] rfl hs4) (c := rowC n2 0 l.length 0 l.length false) (room := room) (by omega)
   have hs8 : On [pts n2 (rowO NI true 0 l)] H6 := On.flat hs8
   refine Wp.regionSeq [(2, .tup [.one (.sl false true true [] 0), .one (vi 1)], H6)] [(0, .y (.one (sv NI b nil capd l))), (1, xi room), (5, .y (.one (rowC n2 0 l.length 0 l.length false))), (6, .y (.one (.sl false true true [] 0))), (7, xi 1)] H6
     (cast (And.intro (ob_call (P := pg) (A := an) (H := H3) (g := 15) (vals := [.y (.one (rowC n2 0 l.length 0 l.length false)), xi room]) (xs0 := [.one (rowC n2 0 l.length 0 l.length false), .one (vi room)]) (res := [.one (.sl false true true [] 0), .one (vi 1)]) (ats := #[]) (ty := 0) (v := .tup [.one (.sl false true true [] 0), .one (vi 1)]) (H' := H6) [.tmp 0, .tmp 1] (by kernel_rfl) (by kernel_rfl) hr7 (by kernel_rfl)) trivial) (by kernel_rfl)) (by kernel_rfl) ?_
   refine Wp.gen (cs := [pts n2 (rowO NI true 0 l)]) hs8 ?_
   intro H9 hs10
   obtain ⟨_, H11, hr12, rfl, hs13⟩ := refwins_low _ (H9 : Go.Lg.Heap) (On.call [] [0] rfl hs10) (c := (sv NI b nil capd l)) (room := room) (by omega)
   have hs13 : On [pts n2 (rowO NI true 0 l)] H11 := On.flat hs13
   refine Wp.regionSeq [(2, .tup [.one (.sl false true true [] 0), .one (vi 1)], H11)] [(0, .y (.one (sv NI b nil capd l))), (5, .y (.one (rowC n2 0 l.length 0 l.length false))), (6, .y (.one (.sl false true true [] 0))), (7, xi 1), (8, .y (.one (.sl false true true [] 0))), (9, xi 1)] H11
     (cast (And.intro (ob_call (P := pg) (A := an) (H := H9) (g := 16) (vals := [.y (.one (sv NI b nil capd l)), xi room]) (xs0 := [.one (sv NI b nil capd l), .one (vi room)]) (res := [.one (.sl false true true [] 0), .one (vi 1)]) (ats := #[]) (ty := 0) (v := .tup [.one (.sl false true true [] 0), .one (vi 1)]) (H' := H11) [.tmp 0, .tmp 1] (by kernel_rfl) (by kernel_rfl) hr12 (by kernel_rfl)) trivial) (by kernel_rfl)) (by kernel_rfl) ?_
   refine Wp.gen (cs := [pts n2 (rowO NI true 0 l)]) hs13 ?_
   intro H14 hs15
   refine Wp.seq ?_
   refine Wp.regionSeq [] [(0, .y (.one (sv NI b nil capd l))), (5, .y (.one (rowC n2 0 l.length 0 l.length false))), (6, .y (.one (.sl false true true [] 0))), (8, .y (.one (.sl false true true [] 0))), (38, xb false)] H14
     (cast trivial (by kernel_rfl)) (by kernel_rfl) ?_
   refine Wp.condF (by kernel_rfl) ?_
   refine Wp.skip ?_
   refine Wp.seq ?_
   refine Wp.regionSeq [] [(0, .y (.one (sv NI b nil capd l))), (5, .y (.one (rowC n2 0 l.length 0 l.length false))), (6, .y (.one (.sl false true true [] 0))), (8, .y (.one (.sl false true true [] 0))), (10, xi 0)] H14
     (cast trivial (by kernel_rfl)) (by kernel_rfl) ?_
   refine Wp.block ?_
   refine Wp.loopU [(0, .y (.one (sv NI b nil capd l))), (5, .y (.one (rowC n2 0 l.length 0 l.length false))), (6, .y (.one (.sl false true true [] 0))), (8, .y (.one (.sl false true true [] 0))), (10, xi 0)] (some ([0, 5, 6, 8, 10], false)) (List.length H14) (by kernel_rfl) ?_
   refine WpL.step ?_
   refine Wp.seq ?_
   refine Wp.regionSeq [] [(0, .y (.one (sv NI b nil capd l))), (5, .y (.one (rowC n2 0 l.length 0 l.length false))), (6, .y (.one (.sl false true true [] 0))), (8, .y (.one (.sl false true true [] 0))), (10, xi 0), (42, xb false)] H14
     (cast trivial (by kernel_rfl)) (by kernel_rfl) ?_
   refine Wp.condF (by kernel_rfl) ?_
   refine Wp.exit ?_
   refine Eq.mpr (if_pos rfl) ?_
   refine Wp.seq ?_
   refine Wp.regionSeq [] [(0, .y (.one (sv NI b nil capd l))), (5, .y (.one (rowC n2 0 l.length 0 l.length false))), (6, .y (.one (.sl false true true [] 0))), (11, xi 0)] H14
     (cast trivial (by kernel_rfl)) (by kernel_rfl) ?_
   refine Wp.block ?_
   refine Wp.loopU [(0, .y (.one (sv NI b nil capd l))), (5, .y (.one (rowC n2 0 l.length 0 l.length false))), (6, .y (.one (.sl false true true [] 0))), (11, xi 0)] (some ([0, 5, 6, 11], false)) (List.length H14) (by kernel_rfl) ?_
   refine WpL.step ?_
   refine Wp.seq ?_
   refine Wp.regionSeq [] [(0, .y (.one (sv NI b nil capd l))), (5, .y (.one (rowC n2 0 l.length 0 l.length false))), (6, .y (.one (.sl false true true [] 0))), (11, xi 0), (58, xb false)] H14
     (cast trivial (by kernel_rfl)) (by kernel_rfl) ?_
   refine Wp.condF (by kernel_rfl) ?_
   refine Wp.exit ?_
   refine Eq.mpr (if_pos rfl) ?_
   refine Wp.seq ?_
   refine Wp.regionSeq [] [(0, .y (.one (sv NI b nil capd l))), (5, .y (.one (rowC n2 0 l.length 0 l.length false))), (6, .y (.one (.sl false true true [] 0))), (12, xi 0)] H14
     (cast trivial (by kernel_rfl)) (by kernel_rfl) ?_
   refine Wp.block ?_
   refine Wp.loopU [(0, .y (.one (sv NI b nil capd l))), (5, .y (.one (rowC n2 0 l.length 0 l.length false))), (6, .y (.one (.sl false true true [] 0))), (12, xi 0)] (some ([0, 5, 6, 12], false)) (List.length H14) (by kernel_rfl) ?_
   refine WpL.step ?_
   refine Wp.seq ?_
   refine Wp.regionSeq [] [(0, .y (.one (sv NI b nil capd l))), (5, .y (.one (rowC n2 0 l.length 0 l.length false))), (6, .y (.one (.sl false true true [] 0))), (12, xi 0), (70, xb false)] H14
     (cast trivial (by kernel_rfl)) (by kernel_rfl) ?_
   refine Wp.condF (by kernel_rfl) ?_
   refine Wp.exit ?_
   refine Eq.mpr (if_pos rfl) ?_
   refine Wp.regionSeq [(2, xb true, H14), (4, xb true, H14)] [(4, xb true)] H14
     (cast (And.intro (ob_pure (P := pg) (A := an) (H := H14) (g := 17) (vals := [.y (.one (rowC n2 0 l.length 0 l.length false)), .y (.one (sv NI b nil capd l))]) (xs0 := [.one (rowC n2 0 l.length 0 l.length false), .one (sv NI b nil capd l)]) (xs1 := [.one (sv NI true false false l), .one (sv NI b nil capd l)]) (res := [.one (vb true)]) (ats := #[]) (ty := 0) (v := xb true) [.tmp 0, .tmp 1] (by kernel_rfl) (by kernel_rfl) (snap_cons (snap_rowO (H := H14) (s := NI) (id := n2) (d := 0) (o := 0) (n := l.length) (capd := false) (l := l) (m := l) (On.at hs15 0 rfl) (by first | rfl | omega | (simp only [List.length_nil]; omega) | (simp; done) | (simp; omega)) (dt0 rfl (Nat.le_refl _))) (snap_cons (by kernel_rfl) (snap_nil))) (by have := fn17 true false false b nil capd l l (by first | rfl | omega | (simp only [List.length_nil]; omega) | (simp; done) | (simp; omega)) (by first | rfl | omega | (simp only [List.length_nil]; omega) | (simp; done) | (simp; omega)); rw [show decide (l = l) = true from decide_eq_true (rfl)] at this; exact this) (by kernel_rfl)) (And.intro (ob_pure (P := pg) (A := an) (H := H14) (g := 10) (vals := []) (xs0 := []) (xs1 := []) (res := [.one (vb true)]) (ats := #[]) (ty := 0) (v := xb true) [] (by kernel_rfl) (by kernel_rfl) (snap_nil) fn10 (by kernel_rfl)) trivial)) (by kernel_rfl)) (by kernel_rfl) ?_
   refine Wp.ret ?_
   refine ⟨Or.inr rfl, [.one (vb true)], (by kernel_rfl), ?_⟩
   exact (by kernel_rfl)
  ·
   by_cases c16 : (65536 : Int) < room
   ·
    obtain ⟨_, H17, hr18, rfl, hs19⟩ := windows_high _ (H3 : Go.Lg.Heap) (On.call [] [0] rfl hs4) (c := rowC n2 0 l.length 0 l.length false) (room := room) (by omega)
    have hs19 : On [pts n2 (rowO NI true 0 l)] H17 := On.flat hs19
    refine Wp.regionSeq [(2, .tup [.one (.sl false true true [] 0), .one (vi 1)], H17)] [(0, .y (.one (sv NI b nil capd l))), (1, xi room), (5, .y (.one (rowC n2 0 l.length 0 l.length false))), (6, .y (.one (.sl false true true [] 0))), (7, xi 1)] H17
      (cast (And.intro (ob_call (P := pg) (A := an) (H := H3) (g := 15) (vals := [.y (.one (rowC n2 0 l.length 0 l.length false)), xi room]) (xs0 := [.one (rowC n2 0 l.length 0 l.length false), .one (vi room)]) (res := [.one (.sl false true true [] 0), .one (vi 1)]) (ats := #[]) (ty := 0) (v := .tup [.one (.sl false true true [] 0), .one (vi 1)]) (H' := H17) [.tmp 0, .tmp 1] (by kernel_rfl) (by kernel_rfl) hr18 (by kernel_rfl)) trivial) (by kernel_rfl)) (by kernel_rfl) ?_
    refine Wp.gen (cs := [pts n2 (rowO NI true 0 l)]) hs19 ?_
    intro H20 hs21
    obtain ⟨_, H22, hr23, rfl, hs24⟩ := refwins_high _ (H20 : Go.Lg.Heap) (On.call [] [0] rfl hs21) (c := (sv NI b nil capd l)) (room := room) (by omega)
    have hs24 : On [pts n2 (rowO NI true 0 l)] H22 := On.flat hs24
    refine Wp.regionSeq [(2, .tup [.one (.sl false true true [] 0), .one (vi 1)], H22)] [(0, .y (.one (sv NI b nil capd l))), (5, .y (.one (rowC n2 0 l.length 0 l.length false))), (6, .y (.one (.sl false true true [] 0))), (7, xi 1), (8, .y (.one (.sl false true true [] 0))), (9, xi 1)] H22
      (cast (And.intro (ob_call (P := pg) (A := an) (H := H20) (g := 16) (vals := [.y (.one (sv NI b nil capd l)), xi room]) (xs0 := [.one (sv NI b nil capd l), .one (vi room)]) (res := [.one (.sl false true true [] 0), .one (vi 1)]) (ats := #[]) (ty := 0) (v := .tup [.one (.sl false true true [] 0), .one (vi 1)]) (H' := H22) [.tmp 0, .tmp 1] (by kernel_rfl) (by kernel_rfl) hr23 (by kernel_rfl)) trivial) (by kernel_rfl)) (by kernel_rfl) ?_
    refine Wp.gen (cs := [pts n2 (rowO NI true 0 l)]) hs24 ?_
    intro H25 hs26
    refine Wp.seq ?_
    refine Wp.regionSeq [] [(0, .y (.one (sv NI b nil capd l))), (5, .y (.one (rowC n2 0 l.length 0 l.length false))), (6, .y (.one (.sl false true true [] 0))), (8, .y (.one (.sl false true true [] 0))), (38, xb false)] H25
      (cast trivial (by kernel_rfl)) (by kernel_rfl) ?_
    refine Wp.condF (by kernel_rfl) ?_
    refine Wp.skip ?_
    refine Wp.seq ?_
    refine Wp.regionSeq [] [(0, .y (.one (sv NI b nil capd l))), (5, .y (.one (rowC n2 0 l.length 0 l.length false))), (6, .y (.one (.sl false true true [] 0))), (8, .y (.one (.sl false true true [] 0))), (10, xi 0)] H25
      (cast trivial (by kernel_rfl)) (by kernel_rfl) ?_
    refine Wp.block ?_
    refine Wp.loopU [(0, .y (.one (sv NI b nil capd l))), (5, .y (.one (rowC n2 0 l.length 0 l.length false))), (6, .y (.one (.sl false true true [] 0))), (8, .y (.one (.sl false true true [] 0))), (10, xi 0)] (some ([0, 5, 6, 8, 10], false)) (List.length H25) (by kernel_rfl) ?_
    refine WpL.step ?_
    refine Wp.seq ?_
    refine Wp.regionSeq [] [(0, .y (.one (sv NI b nil capd l))), (5, .y (.one (rowC n2 0 l.length 0 l.length false))), (6, .y (.one (.sl false true true [] 0))), (8, .y (.one (.sl false true true [] 0))), (10, xi 0), (42, xb false)] H25
      (cast trivial (by kernel_rfl)) (by kernel_rfl) ?_
    refine Wp.condF (by kernel_rfl) ?_
    refine Wp.exit ?_
    refine Eq.mpr (if_pos rfl) ?_
    refine Wp.seq ?_
    refine Wp.regionSeq [] [(0, .y (.one (sv NI b nil capd l))), (5, .y (.one (rowC n2 0 l.length 0 l.length false))), (6, .y (.one (.sl false true true [] 0))), (11, xi 0)] H25
      (cast trivial (by kernel_rfl)) (by kernel_rfl) ?_
    refine Wp.block ?_
    refine Wp.loopU [(0, .y (.one (sv NI b nil capd l))), (5, .y (.one (rowC n2 0 l.length 0 l.length false))), (6, .y (.one (.sl false true true [] 0))), (11, xi 0)] (some ([0, 5, 6, 11], false)) (List.length H25) (by kernel_rfl) ?_
    refine WpL.step ?_
    refine Wp.seq ?_
    refine Wp.regionSeq [] [(0, .y (.one (sv NI b nil capd l))), (5, .y (.one (rowC n2 0 l.length 0 l.length false))), (6, .y (.one (.sl false true true [] 0))), (11, xi 0), (58, xb false)] H25
      (cast trivial (by kernel_rfl)) (by kernel_rfl) ?_
    refine Wp.condF (by kernel_rfl) ?_
    refine Wp.exit ?_
    refine Eq.mpr (if_pos rfl) ?_
    refine Wp.seq ?_
    refine Wp.regionSeq [] [(0, .y (.one (sv NI b nil capd l))), (5, .y (.one (rowC n2 0 l.length 0 l.length false))), (6, .y (.one (.sl false true true [] 0))), (12, xi 0)] H25
      (cast trivial (by kernel_rfl)) (by kernel_rfl) ?_
    refine Wp.block ?_
    refine Wp.loopU [(0, .y (.one (sv NI b nil capd l))), (5, .y (.one (rowC n2 0 l.length 0 l.length false))), (6, .y (.one (.sl false true true [] 0))), (12, xi 0)] (some ([0, 5, 6, 12], false)) (List.length H25) (by kernel_rfl) ?_
    refine WpL.step ?_
    refine Wp.seq ?_
    refine Wp.regionSeq [] [(0, .y (.one (sv NI b nil capd l))), (5, .y (.one (rowC n2 0 l.length 0 l.length false))), (6, .y (.one (.sl false true true [] 0))), (12, xi 0), (70, xb false)] H25
      (cast trivial (by kernel_rfl)) (by kernel_rfl) ?_
    refine Wp.condF (by kernel_rfl) ?_
    refine Wp.exit ?_
    refine Eq.mpr (if_pos rfl) ?_
    refine Wp.regionSeq [(2, xb true, H25), (4, xb true, H25)] [(4, xb true)] H25
      (cast (And.intro (ob_pure (P := pg) (A := an) (H := H25) (g := 17) (vals := [.y (.one (rowC n2 0 l.length 0 l.length false)), .y (.one (sv NI b nil capd l))]) (xs0 := [.one (rowC n2 0 l.length 0 l.length false), .one (sv NI b nil capd l)]) (xs1 := [.one (sv NI true false false l), .one (sv NI b nil capd l)]) (res := [.one (vb true)]) (ats := #[]) (ty := 0) (v := xb true) [.tmp 0, .tmp 1] (by kernel_rfl) (by kernel_rfl) (snap_cons (snap_rowO (H := H25) (s := NI) (id := n2) (d := 0) (o := 0) (n := l.length) (capd := false) (l := l) (m := l) (On.at hs26 0 rfl) (by first | rfl | omega | (simp only [List.length_nil]; omega) | (simp; done) | (simp; omega)) (dt0 rfl (Nat.le_refl _))) (snap_cons (by kernel_rfl) (snap_nil))) (by have := fn17 true false false b nil capd l l (by first | rfl | omega | (simp only [List.length_nil]; omega) | (simp; done) | (simp; omega)) (by first | rfl | omega | (simp only [List.length_nil]; omega) | (simp; done) | (simp; omega)); rw [show decide (l = l) = true from decide_eq_true (rfl)] at this; exact this) (by kernel_rfl)) (And.intro (ob_pure (P := pg) (A := an) (H := H25) (g := 10) (vals := []) (xs0 := []) (xs1 := []) (res := [.one (vb true)]) (ats := #[]) (ty := 0) (v := xb true) [] (by kernel_rfl) (by kernel_rfl) (snap_nil) fn10 (by kernel_rfl)) trivial)) (by kernel_rfl)) (by kernel_rfl) ?_
    refine Wp.ret ?_
    refine ⟨Or.inr rfl, [.one (vb true)], (by kernel_rfl), ?_⟩
    exact (by kernel_rfl)
   ·
    obtain ⟨_, H32, hr33, kw27, ws28, rfl, hs34, hW29⟩ := windows_row _ (H3 : Go.Lg.Heap) (On.call [0] [] rfl hs4) (k := n2) (l := l) (room := room) (by omega) (by omega) (by omega) (by omega)
    have hs34 : On [pts n2 (rowO NI true 0 l), pts kw27 (rowsO NI true ws28), bigP NI ws28] H32 := On.flat hs34
    have hN30 := wins_len hW29
    have hc31 := wins_count (r := room.toNat) (by omega) l.length (l := l) rfl
    refine Wp.regionSeq [(2, .tup [.one (rowC kw27 0 ws28.length 0 ws28.length false), .one (vi 0)], H32)] [(0, .y (.one (sv NI b nil capd l))), (1, xi room), (5, .y (.one (rowC n2 0 l.length 0 l.length false))), (6, .y (.one (rowC kw27 0 ws28.length 0 ws28.length false))), (7, xi 0)] H32
      (cast (And.intro (ob_call (P := pg) (A := an) (H := H3) (g := 15) (vals := [.y (.one (rowC n2 0 l.length 0 l.length false)), xi room]) (xs0 := [.one (rowC n2 0 l.length 0 l.length false), .one (vi room)]) (res := [.one (rowC kw27 0 ws28.length 0 ws28.length false), .one (vi 0)]) (ats := #[]) (ty := 0) (v := .tup [.one (rowC kw27 0 ws28.length 0 ws28.length false), .one (vi 0)]) (H' := H32) [.tmp 0, .tmp 1] (by kernel_rfl) (by kernel_rfl) hr33 (by kernel_rfl)) trivial) (by kernel_rfl)) (by kernel_rfl) ?_
    refine Wp.gen (cs := [pts n2 (rowO NI true 0 l), pts kw27 (rowsO NI true ws28), bigP NI ws28]) hs34 ?_
    intro H35 hs36
    obtain ⟨_, H41, hr42, kw37, ws38, rfl, hs43, hW39⟩ := refwins_row _ (H35 : Go.Lg.Heap) (On.call [] [0, 1, 2] rfl hs36) (b := b) (nil := nil) (cp := capd) (l := l) (room := room) (by omega) (by omega) (by omega) (by omega)
    have hs43 : On [pts n2 (rowO NI true 0 l), pts kw27 (rowsO NI true ws28), bigP NI ws28, pts kw37 (rowsO NI false ws38), bigP NI ws38] H41 := On.flat hs43
    have hN40 := wins_len hW39
    refine Wp.regionSeq [(2, .tup [.one (rowC kw37 0 ws38.length 0 ws38.length false), .one (vi 0)], H41)] [(0, .y (.one (sv NI b nil capd l))), (5, .y (.one (rowC n2 0 l.length 0 l.length false))), (6, .y (.one (rowC kw27 0 ws28.length 0 ws28.length false))), (7, xi 0), (8, .y (.one (rowC kw37 0 ws38.length 0 ws38.length false))), (9, xi 0)] H41
      (cast (And.intro (ob_call (P := pg) (A := an) (H := H35) (g := 16) (vals := [.y (.one (sv NI b nil capd l)), xi room]) (xs0 := [.one (sv NI b nil capd l), .one (vi room)]) (res := [.one (rowC kw37 0 ws38.length 0 ws38.length false), .one (vi 0)]) (ats := #[]) (ty := 0) (v := .tup [.one (rowC kw37 0 ws38.length 0 ws38.length false), .one (vi 0)]) (H' := H41) [.tmp 0, .tmp 1] (by kernel_rfl) (by kernel_rfl) hr42 (by kernel_rfl)) trivial) (by kernel_rfl)) (by kernel_rfl) ?_
    refine Wp.gen (cs := [pts n2 (rowO NI true 0 l), pts kw27 (rowsO NI true ws28), bigP NI ws28, pts kw37 (rowsO NI false ws38), bigP NI ws38]) hs43 ?_
    intro H44 hs45
    refine Wp.seq ?_
    refine Wp.regionSeq [(5, xi (ws28.length : Int), H44), (7, xi (ws38.length : Int), H44), (8, xb false, H44)] [(0, .y (.one (sv NI b nil capd l))), (5, .y (.one (rowC n2 0 l.length 0 l.length false))), (6, .y (.one (rowC kw27 0 ws28.length 0 ws28.length false))), (8, .y (.one (rowC kw37 0 ws38.length 0 ws38.length false))), (38, xb false)] H44
      (cast (And.intro (ow_len (P := pg) (A := an) (H := H44) (s := NI) (cp := true) (t := 37) (ty := 0) (k := kw27) (ws := ws28) (e := (ws28.length : Int)) (On.at hs45 1 rfl) (by kernel_rfl) rfl) (And.intro (ow_len (P := pg) (A := an) (H := H44) (s := NI) (cp := false) (t := 37) (ty := 0) (k := kw37) (ws := ws38) (e := (ws38.length : Int)) (On.at hs45 3 rfl) (by kernel_rfl) rfl) (And.intro (ob_raw (P := pg) (A := an) (vals := [xi (ws28.length : Int), xi (ws38.length : Int)]) (H := H44) (op := .binOp .neq 3 (.tmp 0) (.tmp 1) 3) (ty := 0) (r := xb (((ws28.length : Int) : Int) != (ws38.length : Int))) (v := xb false) (by kernel_rfl) (congrArg (fun z => xb z) (bne_f (by omega)))) trivial))) (by kernel_rfl)) (by kernel_rfl) ?_
    refine Wp.condF (by kernel_rfl) ?_
    refine Wp.skip ?_
    refine Wp.seq ?_
    refine Wp.regionSeq [] [(0, .y (.one (sv NI b nil capd l))), (5, .y (.one (rowC n2 0 l.length 0 l.length false))), (6, .y (.one (rowC kw27 0 ws28.length 0 ws28.length false))), (8, .y (.one (rowC kw37 0 ws38.length 0 ws38.length false))), (10, xi 0)] H44
      (cast trivial (by kernel_rfl)) (by kernel_rfl) ?_
    refine Wp.block ?_
    refine Wp.loop (T := Go.Lg.Heap × Int) (fun (t : Go.Lg.Heap × Int) => match t with | (H47, i1) => (((ws28.length : Int) - i1).toNat : Nat)) (fun (t : Go.Lg.Heap × Int) => match t with | (H47, i1) => ([(0, .y (.one (sv NI b nil capd l))), (5, .y (.one (rowC n2 0 l.length 0 l.length false))), (6, .y (.one (rowC kw27 0 ws28.length 0 ws28.length false))), (8, .y (.one (rowC kw37 0 ws38.length 0 ws38.length false))), (10, xi i1)] : Env)) (fun (t : Go.Lg.Heap × Int) => match t with | (H47, i1) => (H47 : Go.Lg.Heap))
      (fun (t : Go.Lg.Heap × Int) => match t with | (H47, i1) => (On [pts n2 (rowO NI true 0 l), pts kw27 (rowsO NI true ws28), bigP NI ws28, pts kw37 (rowsO NI false ws38), bigP NI ws38] H47 ∧ (0 ≤ i1) ∧ (i1 ≤ (ws28.length : Int)) : Prop)) (H44, 0) (by kernel_rfl) (⟨(On.pick [0, 1, 2, 3, 4] [] rfl hs45), by omega, by omega⟩) ?_
    rintro ⟨H47, i1⟩ ⟨hs48, j1, j2⟩
    show Wp _ _ _ _ [(0, .y (.one (sv NI b nil capd l))), (5, .y (.one (rowC n2 0 l.length 0 l.length false))), (6, .y (.one (rowC kw27 0 ws28.length 0 ws28.length false))), (8, .y (.one (rowC kw37 0 ws38.length 0 ws38.length false))), (10, xi i1)] H47 _
    refine Wp.seq ?_
    by_cases c49 : (i1 : Int) < (ws28.length : Int)
    ·
     refine Wp.regionSeq [(2, xi (ws28.length : Int), H47), (3, xb true, H47)] [(0, .y (.one (sv NI b nil capd l))), (5, .y (.one (rowC n2 0 l.length 0 l.length false))), (6, .y (.one (rowC kw27 0 ws28.length 0 ws28.length false))), (8, .y (.one (rowC kw37 0 ws38.length 0 ws38.length false))), (10, xi i1), (42, xb true)] H47
       (cast (And.intro (ow_len (P := pg) (A := an) (H := H47) (s := NI) (cp := true) (t := 37) (ty := 0) (k := kw27) (ws := ws28) (e := (ws28.length : Int)) (On.at hs48 1 rfl) (by kernel_rfl) rfl) (And.intro (ob_raw (P := pg) (A := an) (vals := [xi i1, xi (ws28.length : Int)]) (H := H47) (op := .binOp .lss 3 (.tmp 0) (.tmp 1) 3) (ty := 0) (r := xb (decide ((i1 : Int) < (ws28.length : Int)))) (v := xb true) (by kernel_rfl) (congrArg (fun z => xb z) (decide_eq_true (by omega)))) trivial)) (by kernel_rfl)) (by kernel_rfl) ?_
     refine Wp.condT (by kernel_rfl) ?_
     refine Wp.skip ?_
     refine Wp.seq ?_
     refine Wp.block ?_
     obtain ⟨q50, p51, hq52, hp53, he54⟩ := win_of (s := NI) (capd := true) (us := ws28) (ws := ws28) rfl (show (i1 : Int).toNat < ws28.length from by omega)
     have hb55 := win_bound (s := NI) hW29 he54 hp53
     obtain ⟨q56, p57, hq58, hp59, he60⟩ := win_of (s := NI) (capd := false) (us := ws38) (ws := ws38) rfl (show (i1 : Int).toNat < ws38.length from by omega)
     have hb61 := win_bound (s := NI) hW39 he60 hp59
     refine Wp.regionSeq [(2, .y (.one (.ra kw27 (0 + ws28.length) ((i1 : Int).toNat))), H47), (3, .y (.one (rowC q50.1 0 q50.2.length 0 q50.2.length true)), H47), (6, .y (.one (.ra kw37 (0 + ws38.length) ((i1 : Int).toNat))), H47), (7, .y (.one (rowC q56.1 0 q56.2.length 0 q56.2.length false)), H47), (8, xb true, H47)] [(0, .y (.one (sv NI b nil capd l))), (5, .y (.one (rowC n2 0 l.length 0 l.length false))), (6, .y (.one (rowC kw27 0 ws28.length 0 ws28.length false))), (8, .y (.one (rowC kw37 0 ws38.length 0 ws38.length false))), (10, xi i1), (54, xb false)] H47
       (cast (And.intro (ow_index (P := pg) (A := an) (H := H47) (s := NI) (cp := true) (t := 37) (el := 22) (ty := 0) (k := kw27) (ws := ws28) (i := i1) (On.at hs48 1 rfl) Try.underlying37 (by kernel_rfl) (by omega) (by omega)) (And.intro (ow_load (P := pg) (A := an) (H := H47) (s := NI) (cp := true) (t := 22) (ty := 0) (k := kw27) (i := ((i1 : Int).toNat)) (ws := ws28) (p := p51) (q := q50) (On.at hs48 1 rfl) (by kernel_rfl) (by kernel_rfl) hp53 he54) (And.intro (ow_index (P := pg) (A := an) (H := H47) (s := NI) (cp := false) (t := 37) (el := 22) (ty := 0) (k := kw37) (ws := ws38) (i := i1) (On.at hs48 3 rfl) Try.underlying37 (by kernel_rfl) (by omega) (by omega)) (And.intro (ow_load (P := pg) (A := an) (H := H47) (s := NI) (cp := false) (t := 22) (ty := 0) (k := kw37) (i := ((i1 : Int).toNat)) (ws := ws38) (p := p57) (q := q56) (On.at hs48 3 rfl) (by kernel_rfl) (by kernel_rfl) hp59 he60) (And.intro (ob_pure (P := pg) (A := an) (H := H47) (g := 17) (vals := [.y (.one (rowC q50.1 0 q50.2.length 0 q50.2.length true)), .y (.one (rowC q56.1 0 q56.2.length 0 q56.2.length false))]) (xs0 := [.one (rowC q50.1 0 q50.2.length 0 q50.2.length true), .one (rowC q56.1 0 q56.2.length 0 q56.2.length false)]) (xs1 := [.one (sv NI true false true q50.2), .one (sv NI true false false q56.2)]) (res := [.one (vb true)]) (ats := #[]) (ty := 0) (v := xb true) [.tmp 0, .tmp 1] (by kernel_rfl) (by kernel_rfl) (snap_cons (snap_rowO (H := H47) (s := NI) (id := q50.1) (d := 0) (o := 0) (n := q50.2.length) (capd := true) (l := q50.2) (m := q50.2) (On.win_at hs48 2 rfl hq52) (by first | rfl | omega | (simp only [List.length_nil]; omega) | (simp; done) | (simp; omega)) (dt0 rfl (Nat.le_refl _))) (snap_cons (snap_rowO (H := H47) (s := NI) (id := q56.1) (d := 0) (o := 0) (n := q56.2.length) (capd := false) (l := q56.2) (m := q56.2) (On.win_at hs48 4 rfl hq58) (by first | rfl | omega | (simp only [List.length_nil]; omega) | (simp; done) | (simp; omega)) (dt0 rfl (Nat.le_refl _))) (snap_nil))) (by have := fn17 true false true true false false q50.2 q56.2 (by first | rfl | omega | (simp only [List.length_nil]; omega) | (simp; done) | (simp; omega)) (by first | rfl | omega | (simp only [List.length_nil]; omega) | (simp; done) | (simp; omega)); rw [show decide (q50.2 = q56.2) = true from decide_eq_true ((win_eq hW29 hW39 hq52 hq58))] at this; exact this) (by kernel_rfl)) trivial))))) (by kernel_rfl)) (by kernel_rfl) ?_
     refine Wp.condF (by kernel_rfl) ?_
     refine Wp.skip ?_
     refine Wp.region [(1, xi (i1 + 1), H47)] [(0, .y (.one (sv NI b nil capd l))), (5, .y (.one (rowC n2 0 l.length 0 l.length false))), (6, .y (.one (rowC kw27 0 ws28.length 0 ws28.length false))), (8, .y (.one (rowC kw37 0 ws38.length 0 ws38.length false))), (10, xi (i1 + 1))] H47
       (cast (And.intro (ob_raw (P := pg) (A := an) (vals := [xi i1, xi 1]) (H := H47) (op := .binOp .add 3 (.tmp 0) (.tmp 1) 3) (ty := 0) (r := xi (IntKind.wrap .i64 (i1 + 1))) (v := xi (i1 + 1)) (by kernel_rfl) (congrArg (fun z => xi z) ((wrap64 (by omega)).trans (by omega)))) trivial) (by kernel_rfl)) (by kernel_rfl) ?_
     exact ⟨(H47, (i1 + 1)), by kernel_rfl, (⟨(On.pick [0, 1, 2, 3, 4] [] rfl hs48), by omega, by omega⟩), (by show (_ : Nat) < _; simp only []; omega)⟩
    ·
     refine Wp.regionSeq [(2, xi (ws28.length : Int), H47), (3, xb false, H47)] [(0, .y (.one (sv NI b nil capd l))), (5, .y (.one (rowC n2 0 l.length 0 l.length false))), (6, .y (.one (rowC kw27 0 ws28.length 0 ws28.length false))), (8, .y (.one (rowC kw37 0 ws38.length 0 ws38.length false))), (10, xi i1), (42, xb false)] H47
       (cast (And.intro (ow_len (P := pg) (A := an) (H := H47) (s := NI) (cp := true) (t := 37) (ty := 0) (k := kw27) (ws := ws28) (e := (ws28.length : Int)) (On.at hs48 1 rfl) (by kernel_rfl) rfl) (And.intro (ob_raw (P := pg) (A := an) (vals := [xi i1, xi (ws28.length : Int)]) (H := H47) (op := .binOp .lss 3 (.tmp 0) (.tmp 1) 3) (ty := 0) (r := xb (decide ((i1 : Int) < (ws28.length : Int)))) (v := xb false) (by kernel_rfl) (congrArg (fun z => xb z) (decide_eq_false (by omega)))) trivial)) (by kernel_rfl)) (by kernel_rfl) ?_
     refine Wp.condF (by kernel_rfl) ?_
     refine Wp.exit ?_
     refine Eq.mpr (if_pos rfl) ?_
     refine Wp.seq ?_
     refine Wp.regionSeq [] [(0, .y (.one (sv NI b nil capd l))), (5, .y (.one (rowC n2 0 l.length 0 l.length false))), (6, .y (.one (rowC kw27 0 ws28.length 0 ws28.length false))), (11, xi 0)] H47
       (cast trivial (by kernel_rfl)) (by kernel_rfl) ?_
     refine Wp.block ?_
     refine Wp.loop (T := Go.Lg.Heap × Int × List (Nat × List Int)) (fun (t : Go.Lg.Heap × Int × List (Nat × List Int)) => match t with | (H63, i2, us) => (((ws28.length : Int) - i2).toNat : Nat)) (fun (t : Go.Lg.Heap × Int × List (Nat × List Int)) => match t with | (H63, i2, us) => ([(0, .y (.one (sv NI b nil capd l))), (5, .y (.one (rowC n2 0 l.length 0 l.length false))), (6, .y (.one (rowC kw27 0 ws28.length 0 ws28.length false))), (11, xi i2)] : Env)) (fun (t : Go.Lg.Heap × Int × List (Nat × List Int)) => match t with | (H63, i2, us) => (H63 : Go.Lg.Heap))
       (fun (t : Go.Lg.Heap × Int × List (Nat × List Int)) => match t with | (H63, i2, us) => (On [pts n2 (rowO NI true 0 l), pts kw27 (rowsO NI true ws28), bigP NI us] H63 ∧ (0 ≤ i2) ∧ (i2 ≤ (ws28.length : Int)) ∧ (us.map (winC NI true) = ws28.map (winC NI true)) ∧ (∀ (j : Nat) (q : Nat × List Int), (j : Int) < i2 → us[j]? = some q → ∀ x ∈ q.2, x = -770000 - (j : Int)) : Prop)) (H47, 0, ws28) (by kernel_rfl) (⟨(On.pick [0, 1, 2] [3, 4] rfl hs48), by omega, by omega, rfl, by intro j q hj; omega⟩) ?_
     rintro ⟨H63, i2, us⟩ ⟨hs64, m1, m2, m3, m4⟩
     show Wp _ _ _ _ [(0, .y (.one (sv NI b nil capd l))), (5, .y (.one (rowC n2 0 l.length 0 l.length false))), (6, .y (.one (rowC kw27 0 ws28.length 0 ws28.length false))), (11, xi i2)] H63 _
     refine Wp.seq ?_
     by_cases c65 : (i2 : Int) < (ws28.length : Int)
     ·
      refine Wp.regionSeq [(2, xi (ws28.length : Int), H63), (3, xb true, H63)] [(0, .y (.one (sv NI b nil capd l))), (5, .y (.one (rowC n2 0 l.length 0 l.length false))), (6, .y (.one (rowC kw27 0 ws28.length 0 ws28.length false))), (11, xi i2), (58, xb true)] H63
        (cast (And.intro (ow_len (P := pg) (A := an) (H := H63) (s := NI) (cp := true) (t := 37) (ty := 0) (k := kw27) (ws := ws28) (e := (ws28.length : Int)) (On.at hs64 1 rfl) (by kernel_rfl) rfl) (And.intro (ob_raw (P := pg) (A := an) (vals := [xi i2, xi (ws28.length : Int)]) (H := H63) (op := .binOp .lss 3 (.tmp 0) (.tmp 1) 3) (ty := 0) (r := xb (decide ((i2 : Int) < (ws28.length : Int)))) (v := xb true) (by kernel_rfl) (congrArg (fun z => xb z) (decide_eq_true (by omega)))) trivial)) (by kernel_rfl)) (by kernel_rfl) ?_
      refine Wp.condT (by kernel_rfl) ?_
      refine Wp.skip ?_
      refine Wp.seq ?_
      refine Wp.block ?_
      obtain ⟨q66, p67, hq68, hp69, he70⟩ := win_of (s := NI) (capd := true) (us := us) (ws := ws28) m3 (show (i2 : Int).toNat < ws28.length from by omega)
      have hb71 := win_bound (s := NI) hW29 he70 hp69
      have hx72 : On [pts n2 (rowO NI true 0 l), pts kw27 (rowsO NI true ws28), bigP NI (us.eraseIdx (i2 : Int).toNat), pts q66.1 (rowO NI true 0 q66.2)] H63 := On.win_out hs64 2 rfl hq68
      obtain ⟨_, H74, hr75, M76, rfl, hs77, hM78, hM79⟩ := marked_keep _ (H63 : Go.Lg.Heap) (On.call [3] [0, 1, 2] rfl hx72) (k := q66.1) (l := q66.2) (kk := i2) (by omega) (by omega) (by omega)
      have hs77 : On [pts n2 (rowO NI true 0 l), pts kw27 (rowsO NI true ws28), bigP NI (us.eraseIdx (i2 : Int).toNat), pts q66.1 (rowO NI true 0 M76)] H74 := On.flat hs77
      have hs80 : On [pts n2 (rowO NI true 0 l), pts kw27 (rowsO NI true ws28), bigP NI (us.set (i2 : Int).toNat (q66.1, M76))] H74 := On.win_in (i := (i2 : Int).toNat) [2, 3] [0, 1] rfl rfl hq68 hs77
      refine Wp.regionK [(2, .y (.one (.ra kw27 (0 + ws28.length) ((i2 : Int).toNat))), H63), (3, .y (.one (rowC q66.1 0 q66.2.length 0 q66.2.length true)), H63), (5, .tup [], H74)] [(0, .y (.one (sv NI b nil capd l))), (5, .y (.one (rowC n2 0 l.length 0 l.length false))), (6, .y (.one (rowC kw27 0 ws28.length 0 ws28.length false))), (11, xi i2)] H74
        (cast (And.intro (ow_index (P := pg) (A := an) (H := H63) (s := NI) (cp := true) (t := 37) (el := 22) (ty := 0) (k := kw27) (ws := ws28) (i := i2) (On.at hs64 1 rfl) Try.underlying37 (by kernel_rfl) (by omega) (by omega)) (And.intro (ow_load (P := pg) (A := an) (H := H63) (s := NI) (cp := true) (t := 22) (ty := 0) (k := kw27) (i := ((i2 : Int).toNat)) (ws := ws28) (p := p67) (q := q66) (On.at hs64 1 rfl) (by kernel_rfl) (by kernel_rfl) hp69 he70) (And.intro (ob_call (P := pg) (A := an) (H := H63) (g := 18) (vals := [.y (.one (rowC q66.1 0 q66.2.length 0 q66.2.length true)), xi i2]) (xs0 := [.one (rowC q66.1 0 q66.2.length 0 q66.2.length true), .one (vi i2)]) (res := []) (ats := #[]) (ty := 0) (v := .tup []) (H' := H74) [.tmp 0, .tmp 1] (by kernel_rfl) (by kernel_rfl) hr75 (by kernel_rfl)) trivial))) (by kernel_rfl)) (by kernel_rfl) ?_
      refine Wp.gen (cs := [pts n2 (rowO NI true 0 l), pts kw27 (rowsO NI true ws28), bigP NI (us.set (i2 : Int).toNat (q66.1, M76))]) hs80 ?_
      intro H84 hs85
      refine Wp.skip ?_
      refine Wp.region [(1, xi (i2 + 1), H84)] [(0, .y (.one (sv NI b nil capd l))), (5, .y (.one (rowC n2 0 l.length 0 l.length false))), (6, .y (.one (rowC kw27 0 ws28.length 0 ws28.length false))), (11, xi (i2 + 1))] H84
        (cast (And.intro (ob_raw (P := pg) (A := an) (vals := [xi i2, xi 1]) (H := H84) (op := .binOp .add 3 (.tmp 0) (.tmp 1) 3) (ty := 0) (r := xi (IntKind.wrap .i64 (i2 + 1))) (v := xi (i2 + 1)) (by kernel_rfl) (congrArg (fun z => xi z) ((wrap64 (by omega)).trans (by omega)))) trivial) (by kernel_rfl)) (by kernel_rfl) ?_
      exact ⟨(H84, (i2 + 1), (us.set (i2 : Int).toNat (q66.1, M76))), by kernel_rfl, (⟨(On.pick [0, 1, 2] [] rfl hs85), by omega, by omega, win_set m3 hq68 hM78, mark_step m4 (by omega) hM79⟩), (by show (_ : Nat) < _; simp only []; omega)⟩
     ·
      refine Wp.regionSeq [(2, xi (ws28.length : Int), H63), (3, xb false, H63)] [(0, .y (.one (sv NI b nil capd l))), (5, .y (.one (rowC n2 0 l.length 0 l.length false))), (6, .y (.one (rowC kw27 0 ws28.length 0 ws28.length false))), (11, xi i2), (58, xb false)] H63
        (cast (And.intro (ow_len (P := pg) (A := an) (H := H63) (s := NI) (cp := true) (t := 37) (ty := 0) (k := kw27) (ws := ws28) (e := (ws28.length : Int)) (On.at hs64 1 rfl) (by kernel_rfl) rfl) (And.intro (ob_raw (P := pg) (A := an) (vals := [xi i2, xi (ws28.length : Int)]) (H := H63) (op := .binOp .lss 3 (.tmp 0) (.tmp 1) 3) (ty := 0) (r := xb (decide ((i2 : Int) < (ws28.length : Int)))) (v := xb false) (by kernel_rfl) (congrArg (fun z => xb z) (decide_eq_false (by omega)))) trivial)) (by kernel_rfl)) (by kernel_rfl) ?_
      refine Wp.condF (by kernel_rfl) ?_
      refine Wp.exit ?_
      refine Eq.mpr (if_pos rfl) ?_
      refine Wp.seq ?_
      refine Wp.regionSeq [] [(0, .y (.one (sv NI b nil capd l))), (5, .y (.one (rowC n2 0 l.length 0 l.length false))), (6, .y (.one (rowC kw27 0 ws28.length 0 ws28.length false))), (12, xi 0)] H63
        (cast trivial (by kernel_rfl)) (by kernel_rfl) ?_
      refine Wp.block ?_
      refine Wp.loop (T := Go.Lg.Heap × Int) (fun (t : Go.Lg.Heap × Int) => match t with | (H87, i3) => (((ws28.length : Int) - i3).toNat : Nat)) (fun (t : Go.Lg.Heap × Int) => match t with | (H87, i3) => ([(0, .y (.one (sv NI b nil capd l))), (5, .y (.one (rowC n2 0 l.length 0 l.length false))), (6, .y (.one (rowC kw27 0 ws28.length 0 ws28.length false))), (12, xi i3)] : Env)) (fun (t : Go.Lg.Heap × Int) => match t with | (H87, i3) => (H87 : Go.Lg.Heap))
        (fun (t : Go.Lg.Heap × Int) => match t with | (H87, i3) => (On [pts n2 (rowO NI true 0 l), pts kw27 (rowsO NI true ws28), bigP NI us] H87 ∧ (0 ≤ i3) ∧ (i3 ≤ (ws28.length : Int)) : Prop)) (H63, 0) (by kernel_rfl) (⟨(On.pick [0, 1, 2] [] rfl hs64), by omega, by omega⟩) ?_
      rintro ⟨H87, i3⟩ ⟨hs88, o1, o2⟩
      show Wp _ _ _ _ [(0, .y (.one (sv NI b nil capd l))), (5, .y (.one (rowC n2 0 l.length 0 l.length false))), (6, .y (.one (rowC kw27 0 ws28.length 0 ws28.length false))), (12, xi i3)] H87 _
      refine Wp.seq ?_
      by_cases c89 : (i3 : Int) < (ws28.length : Int)
      ·
       refine Wp.regionSeq [(2, xi (ws28.length : Int), H87), (3, xb true, H87)] [(0, .y (.one (sv NI b nil capd l))), (5, .y (.one (rowC n2 0 l.length 0 l.length false))), (6, .y (.one (rowC kw27 0 ws28.length 0 ws28.length false))), (12, xi i3), (70, xb true)] H87
         (cast (And.intro (ow_len (P := pg) (A := an) (H := H87) (s := NI) (cp := true) (t := 37) (ty := 0) (k := kw27) (ws := ws28) (e := (ws28.length : Int)) (On.at hs88 1 rfl) (by kernel_rfl) rfl) (And.intro (ob_raw (P := pg) (A := an) (vals := [xi i3, xi (ws28.length : Int)]) (H := H87) (op := .binOp .lss 3 (.tmp 0) (.tmp 1) 3) (ty := 0) (r := xb (decide ((i3 : Int) < (ws28.length : Int)))) (v := xb true) (by kernel_rfl) (congrArg (fun z => xb z) (decide_eq_true (by omega)))) trivial)) (by kernel_rfl)) (by kernel_rfl) ?_
       refine Wp.condT (by kernel_rfl) ?_
       refine Wp.skip ?_
       refine Wp.seq ?_
       refine Wp.block ?_
       refine Wp.regionSeq [] [(0, .y (.one (sv NI b nil capd l))), (5, .y (.one (rowC n2 0 l.length 0 l.length false))), (6, .y (.one (rowC kw27 0 ws28.length 0 ws28.length false))), (12, xi i3), (13, xi 0)] H87
         (cast trivial (by kernel_rfl)) (by kernel_rfl) ?_
       refine Wp.block ?_
       refine Wp.loop (T := Go.Lg.Heap × Int) (fun (t : Go.Lg.Heap × Int) => match t with | (H91, k4) => ((65536 - k4).toNat : Nat)) (fun (t : Go.Lg.Heap × Int) => match t with | (H91, k4) => ([(0, .y (.one (sv NI b nil capd l))), (5, .y (.one (rowC n2 0 l.length 0 l.length false))), (6, .y (.one (rowC kw27 0 ws28.length 0 ws28.length false))), (12, xi i3), (13, xi k4)] : Env)) (fun (t : Go.Lg.Heap × Int) => match t with | (H91, k4) => (H91 : Go.Lg.Heap))
         (fun (t : Go.Lg.Heap × Int) => match t with | (H91, k4) => (On [pts n2 (rowO NI true 0 l), pts kw27 (rowsO NI true ws28), bigP NI us] H91 ∧ (0 ≤ k4) ∧ (k4 ≤ 65536) : Prop)) (H87, 0) (by kernel_rfl) (⟨(On.pick [0, 1, 2] [] rfl hs88), by omega, by omega⟩) ?_
       rintro ⟨H91, k4⟩ ⟨hs92, v1, v2⟩
       show Wp _ _ _ _ [(0, .y (.one (sv NI b nil capd l))), (5, .y (.one (rowC n2 0 l.length 0 l.length false))), (6, .y (.one (rowC kw27 0 ws28.length 0 ws28.length false))), (12, xi i3), (13, xi k4)] H91 _
       refine Wp.seq ?_
       obtain ⟨q93, p94, hq95, hp96, he97⟩ := win_of (s := NI) (capd := true) (us := us) (ws := ws28) m3 (show (i3 : Int).toNat < ws28.length from by omega)
       have hb98 := win_bound (s := NI) hW29 he97 hp96
       by_cases c99 : (k4 : Int) < (q93.2.length : Int)
       ·
        refine Wp.regionSeq [(3, .y (.one (.ra kw27 (0 + ws28.length) ((i3 : Int).toNat))), H91), (4, .y (.one (rowC q93.1 0 q93.2.length 0 q93.2.length true)), H91), (5, xi (q93.2.length : Int), H91), (6, xb true, H91)] [(0, .y (.one (sv NI b nil capd l))), (5, .y (.one (rowC n2 0 l.length 0 l.length false))), (6, .y (.one (rowC kw27 0 ws28.length 0 ws28.length false))), (12, xi i3), (13, xi k4), (79, xb true)] H91
          (cast (And.intro (ow_index (P := pg) (A := an) (H := H91) (s := NI) (cp := true) (t := 37) (el := 22) (ty := 0) (k := kw27) (ws := ws28) (i := i3) (On.at hs92 1 rfl) Try.underlying37 (by kernel_rfl) (by omega) (by omega)) (And.intro (ow_load (P := pg) (A := an) (H := H91) (s := NI) (cp := true) (t := 22) (ty := 0) (k := kw27) (i := ((i3 : Int).toNat)) (ws := ws28) (p := p94) (q := q93) (On.at hs92 1 rfl) (by kernel_rfl) (by kernel_rfl) hp96 he97) (And.intro (or_len (P := pg) (A := an) (H := H91) (s := NI) (t := 22) (ty := 0) (pu := true) (capd := true) (id := q93.1) (d := 0) (o := 0) (n := q93.2.length) (l := q93.2) (e := (q93.2.length : Int)) (On.win_at hs92 2 rfl hq95) (by kernel_rfl) (by first | rfl | omega | (simp only [List.length_nil]; omega) | (simp; done) | (simp; omega))) (And.intro (ob_raw (P := pg) (A := an) (vals := [xi k4, xi (q93.2.length : Int)]) (H := H91) (op := .binOp .lss 3 (.tmp 0) (.tmp 1) 3) (ty := 0) (r := xb (decide ((k4 : Int) < (q93.2.length : Int)))) (v := xb true) (by kernel_rfl) (congrArg (fun z => xb z) (decide_eq_true (by omega)))) trivial)))) (by kernel_rfl)) (by kernel_rfl) ?_
        refine Wp.condT (by kernel_rfl) ?_
        refine Wp.skip ?_
        refine Wp.seq ?_
        refine Wp.block ?_
        obtain ⟨x100, hx100⟩ : ∃ x : Int, q93.2[(k4 : Int).toNat]? = some x := get_of (by first | rfl | omega | (simp only [List.length_nil]; omega) | (simp; done) | (simp; omega))
        have hb101 : x100 = -770000 - i3 := by have := m4 (i3 : Int).toNat q93 (by omega) hq95 x100 (List.mem_of_getElem? hx100); omega
        refine Wp.regionSeq [(2, .y (.one (.ra kw27 (0 + ws28.length) ((i3 : Int).toNat))), H91), (3, .y (.one (rowC q93.1 0 q93.2.length 0 q93.2.length true)), H91), (5, .y (.one (raC q93.1 0 q93.2.length 1 ((k4 : Int).toNat) 0)), H91), (6, xi x100, H91), (8, xi (-i3 - 770000), H91), (9, xb false, H91)] [(0, .y (.one (sv NI b nil capd l))), (5, .y (.one (rowC n2 0 l.length 0 l.length false))), (6, .y (.one (rowC kw27 0 ws28.length 0 ws28.length false))), (12, xi i3), (13, xi k4), (91, xb false)] H91
          (cast (And.intro (ow_index (P := pg) (A := an) (H := H91) (s := NI) (cp := true) (t := 37) (el := 22) (ty := 0) (k := kw27) (ws := ws28) (i := i3) (On.at hs92 1 rfl) Try.underlying37 (by kernel_rfl) (by omega) (by omega)) (And.intro (ow_load (P := pg) (A := an) (H := H91) (s := NI) (cp := true) (t := 22) (ty := 0) (k := kw27) (i := ((i3 : Int).toNat)) (ws := ws28) (p := p94) (q := q93) (On.at hs92 1 rfl) (by kernel_rfl) (by kernel_rfl) hp96 he97) (And.intro (or_index (P := pg) (A := an) (H := H91) (s := NI) (t := 22) (el := 3) (ty := 0) (pu := true) (capd := true) (id := q93.1) (d := 0) (o := 0) (n := q93.2.length) (j := ((k4 : Int).toNat)) (l := q93.2) (i := k4) (On.win_at hs92 2 rfl hq95) Try.underlying22 (by kernel_rfl) (by omega) (by first | rfl | omega | (simp only [List.length_nil]; omega) | (simp; done) | (simp; omega)) (by first | rfl | omega | (simp only [List.length_nil]; omega) | (simp; done) | (simp; omega)) (by first | rfl | omega | (simp only [List.length_nil]; omega) | (simp; done) | (simp; omega))) (And.intro (or_load (P := pg) (A := an) (H := H91) (s := NI) (t := 3) (ty := 0) (pu := true) (id := q93.1) (d := 0) (j := ((k4 : Int).toNat)) (o := 0) (n := 1) (l := q93.2) (x := x100) (v := .one (vi x100)) (On.win_at hs92 2 rfl hq95) (by kernel_rfl) (by kernel_rfl) (of_content (dt0 rfl (Nat.le_refl _)) hx100 (by first | rfl | omega | (simp only [List.length_nil]; omega) | (simp; done) | (simp; omega))) (by kernel_rfl)) (And.intro (ob_raw (P := pg) (A := an) (vals := [xi (-770000), xi i3]) (H := H91) (op := .binOp .sub 3 (.tmp 0) (.tmp 1) 3) (ty := 0) (r := xi (IntKind.wrap .i64 ((-770000) - i3))) (v := xi (-i3 - 770000)) (by kernel_rfl) (congrArg (fun z => xi z) ((wrap64 (by omega)).trans (by omega)))) (And.intro (ob_raw (P := pg) (A := an) (vals := [xi x100, xi (-i3 - 770000)]) (H := H91) (op := .binOp .neq 3 (.tmp 0) (.tmp 1) 3) (ty := 0) (r := xb ((x100 : Int) != (-i3 - 770000))) (v := xb false) (by kernel_rfl) (congrArg (fun z => xb z) (bne_f (by omega)))) trivial)))))) (by kernel_rfl)) (by kernel_rfl) ?_
        refine Wp.condF (by kernel_rfl) ?_
        refine Wp.skip ?_
        refine Wp.region [(1, xi (k4 + 1), H91)] [(0, .y (.one (sv NI b nil capd l))), (5, .y (.one (rowC n2 0 l.length 0 l.length false))), (6, .y (.one (rowC kw27 0 ws28.length 0 ws28.length false))), (12, xi i3), (13, xi (k4 + 1))] H91
          (cast (And.intro (ob_raw (P := pg) (A := an) (vals := [xi k4, xi 1]) (H := H91) (op := .binOp .add 3 (.tmp 0) (.tmp 1) 3) (ty := 0) (r := xi (IntKind.wrap .i64 (k4 + 1))) (v := xi (k4 + 1)) (by kernel_rfl) (congrArg (fun z => xi z) ((wrap64 (by omega)).trans (by omega)))) trivial) (by kernel_rfl)) (by kernel_rfl) ?_
        exact ⟨(H91, (k4 + 1)), by kernel_rfl, (⟨(On.pick [0, 1, 2] [] rfl hs92), by omega, by omega⟩), (by show (_ : Nat) < _; simp only []; omega)⟩
       ·
        refine Wp.regionSeq [(3, .y (.one (.ra kw27 (0 + ws28.length) ((i3 : Int).toNat))), H91), (4, .y (.one (rowC q93.1 0 q93.2.length 0 q93.2.length true)), H91), (5, xi (q93.2.length : Int), H91), (6, xb false, H91)] [(0, .y (.one (sv NI b nil capd l))), (5, .y (.one (rowC n2 0 l.length 0 l.length false))), (6, .y (.one (rowC kw27 0 ws28.length 0 ws28.length false))), (12, xi i3), (13, xi k4), (79, xb false)] H91
          (cast (And.intro (ow_index (P := pg) (A := an) (H := H91) (s := NI) (cp := true) (t := 37) (el := 22) (ty := 0) (k := kw27) (ws := ws28) (i := i3) (On.at hs92 1 rfl) Try.underlying37 (by kernel_rfl) (by omega) (by omega)) (And.intro (ow_load (P := pg) (A := an) (H := H91) (s := NI) (cp := true) (t := 22) (ty := 0) (k := kw27) (i := ((i3 : Int).toNat)) (ws := ws28) (p := p94) (q := q93) (On.at hs92 1 rfl) (by kernel_rfl) (by kernel_rfl) hp96 he97) (And.intro (or_len (P := pg) (A := an) (H := H91) (s := NI) (t := 22) (ty := 0) (pu := true) (capd := true) (id := q93.1) (d := 0) (o := 0) (n := q93.2.length) (l := q93.2) (e := (q93.2.length : Int)) (On.win_at hs92 2 rfl hq95) (by kernel_rfl) (by first | rfl | omega | (simp only [List.length_nil]; omega) | (simp; done) | (simp; omega))) (And.intro (ob_raw (P := pg) (A := an) (vals := [xi k4, xi (q93.2.length : Int)]) (H := H91) (op := .binOp .lss 3 (.tmp 0) (.tmp 1) 3) (ty := 0) (r := xb (decide ((k4 : Int) < (q93.2.length : Int)))) (v := xb false) (by kernel_rfl) (congrArg (fun z => xb z) (decide_eq_false (by omega)))) trivial)))) (by kernel_rfl)) (by kernel_rfl) ?_
        refine Wp.condF (by kernel_rfl) ?_
        refine Wp.exit ?_
        refine Eq.mpr (if_pos rfl) ?_
        refine Wp.region [(1, xi (i3 + 1), H91)] [(0, .y (.one (sv NI b nil capd l))), (5, .y (.one (rowC n2 0 l.length 0 l.length false))), (6, .y (.one (rowC kw27 0 ws28.length 0 ws28.length false))), (12, xi (i3 + 1))] H91
          (cast (And.intro (ob_raw (P := pg) (A := an) (vals := [xi i3, xi 1]) (H := H91) (op := .binOp .add 3 (.tmp 0) (.tmp 1) 3) (ty := 0) (r := xi (IntKind.wrap .i64 (i3 + 1))) (v := xi (i3 + 1)) (by kernel_rfl) (congrArg (fun z => xi z) ((wrap64 (by omega)).trans (by omega)))) trivial) (by kernel_rfl)) (by kernel_rfl) ?_
        exact ⟨(H91, (i3 + 1)), by kernel_rfl, (⟨(On.pick [0, 1, 2] [] rfl hs92), by omega, by omega⟩), (by show (_ : Nat) < _; simp only []; omega)⟩
      ·
       refine Wp.regionSeq [(2, xi (ws28.length : Int), H87), (3, xb false, H87)] [(0, .y (.one (sv NI b nil capd l))), (5, .y (.one (rowC n2 0 l.length 0 l.length false))), (6, .y (.one (rowC kw27 0 ws28.length 0 ws28.length false))), (12, xi i3), (70, xb false)] H87
         (cast (And.intro (ow_len (P := pg) (A := an) (H := H87) (s := NI) (cp := true) (t := 37) (ty := 0) (k := kw27) (ws := ws28) (e := (ws28.length : Int)) (On.at hs88 1 rfl) (by kernel_rfl) rfl) (And.intro (ob_raw (P := pg) (A := an) (vals := [xi i3, xi (ws28.length : Int)]) (H := H87) (op := .binOp .lss 3 (.tmp 0) (.tmp 1) 3) (ty := 0) (r := xb (decide ((i3 : Int) < (ws28.length : Int)))) (v := xb false) (by kernel_rfl) (congrArg (fun z => xb z) (decide_eq_false (by omega)))) trivial)) (by kernel_rfl)) (by kernel_rfl) ?_
       refine Wp.condF (by kernel_rfl) ?_
       refine Wp.exit ?_
       refine Eq.mpr (if_pos rfl) ?_
       refine Wp.regionSeq [(2, xb true, H87), (4, xb true, H87)] [(4, xb true)] H87
         (cast (And.intro (ob_pure (P := pg) (A := an) (H := H87) (g := 17) (vals := [.y (.one (rowC n2 0 l.length 0 l.length false)), .y (.one (sv NI b nil capd l))]) (xs0 := [.one (rowC n2 0 l.length 0 l.length false), .one (sv NI b nil capd l)]) (xs1 := [.one (sv NI true false false l), .one (sv NI b nil capd l)]) (res := [.one (vb true)]) (ats := #[]) (ty := 0) (v := xb true) [.tmp 0, .tmp 1] (by kernel_rfl) (by kernel_rfl) (snap_cons (snap_rowO (H := H87) (s := NI) (id := n2) (d := 0) (o := 0) (n := l.length) (capd := false) (l := l) (m := l) (On.at hs88 0 rfl) (by first | rfl | omega | (simp only [List.length_nil]; omega) | (simp; done) | (simp; omega)) (dt0 rfl (Nat.le_refl _))) (snap_cons (by kernel_rfl) (snap_nil))) (by have := fn17 true false false b nil capd l l (by first | rfl | omega | (simp only [List.length_nil]; omega) | (simp; done) | (simp; omega)) (by first | rfl | omega | (simp only [List.length_nil]; omega) | (simp; done) | (simp; omega)); rw [show decide (l = l) = true from decide_eq_true (rfl)] at this; exact this) (by kernel_rfl)) (And.intro (ob_pure (P := pg) (A := an) (H := H87) (g := 10) (vals := []) (xs0 := []) (xs1 := []) (res := [.one (vb true)]) (ats := #[]) (ty := 0) (v := xb true) [] (by kernel_rfl) (by kernel_rfl) (snap_nil) fn10 (by kernel_rfl)) trivial)) (by kernel_rfl)) (by kernel_rfl) ?_
       refine Wp.ret ?_
       refine ⟨Or.inr rfl, [.one (vb true)], (by kernel_rfl), ?_⟩
       exact (by kernel_rfl)
 ·
  refine Wp.regionSeq [(2, .y (.one (.sl false true true [] 0)), [])] [(0, .y (.one (sv NI b nil capd l))), (1, xi room), (5, .y (.one (.sl false true true [] 0)))] []
    (cast (And.intro (ob_append_none (P := pg) (A := an) (H := []) (t := 22) (u := 22) (el := 3) (by_ := 8) (z := [vi 0]) (ty := 0) (sz := 1) (c := .sl false true true [] 0) (y := sv NI b nil capd l) (cs := ([] : List Int).flatMap (enc NI)) (n := 0) (pu := true) (cs' := l.flatMap (enc NI)) (puy := true) (slCells_slO (H := []) (s := NI) (b := false) (nil := true) (capd := true) (l := ([] : List Int)) (n := 0) (by first | rfl | omega | (simp only [List.length_nil]; omega) | (simp; done) | (simp; omega))) (((slCells_slO (H := []) (s := NI) (b := b) (nil := nil) (capd := capd) (l := l) (n := l.length) (by first | rfl | omega | (simp only [List.length_nil]; omega) | (simp; done) | (simp; omega)))).trans (by rw [show l.length = 0 from by first | rfl | omega | (simp only [List.length_nil]; omega) | (simp; done) | (simp; omega)])) (by kernel_rfl) (by kernel_rfl) (by kernel_rfl) (by kernel_rfl) (by kernel_rfl) (by kernel_rfl)) trivial) (by kernel_rfl)) (by kernel_rfl) ?_
  by_cases c102 : (room : Int) < 1
  ·
   obtain ⟨_, H103, hr104, rfl, hs105⟩ := windows_low _ ([] : Go.Lg.Heap) (On.call [] [] rfl (On.nil [])) (c := .sl false true true [] 0) (room := room) (by omega)
   have hs105 : On [] H103 := On.flat hs105
   refine Wp.regionSeq [(2, .tup [.one (.sl false true true [] 0), .one (vi 1)], H103)] [(0, .y (.one (sv NI b nil capd l))), (1, xi room), (5, .y (.one (.sl false true true [] 0))), (6, .y (.one (.sl false true true [] 0))), (7, xi 1)] H103
     (cast (And.intro (ob_call (P := pg) (A := an) (H := []) (g := 15) (vals := [.y (.one (.sl false true true [] 0)), xi room]) (xs0 := [.one (.sl false true true [] 0), .one (vi room)]) (res := [.one (.sl false true true [] 0), .one (vi 1)]) (ats := #[]) (ty := 0) (v := .tup [.one (.sl false true true [] 0), .one (vi 1)]) (H' := H103) [.tmp 0, .tmp 1] (by kernel_rfl) (by kernel_rfl) hr104 (by kernel_rfl)) trivial) (by kernel_rfl)) (by kernel_rfl) ?_
   refine Wp.gen (cs := []) hs105 ?_
   intro H106 hs107
   obtain ⟨_, H108, hr109, rfl, hs110⟩ := refwins_low _ (H106 : Go.Lg.Heap) (On.call [] [] rfl hs107) (c := (sv NI b nil capd l)) (room := room) (by omega)
   have hs110 : On [] H108 := On.flat hs110
   refine Wp.regionSeq [(2, .tup [.one (.sl false true true [] 0), .one (vi 1)], H108)] [(0, .y (.one (sv NI b nil capd l))), (5, .y (.one (.sl false true true [] 0))), (6, .y (.one (.sl false true true [] 0))), (7, xi 1), (8, .y (.one (.sl false true true [] 0))), (9, xi 1)] H108
     (cast (And.intro (ob_call (P := pg) (A := an) (H := H106) (g := 16) (vals := [.y (.one (sv NI b nil capd l)), xi room]) (xs0 := [.one (sv NI b nil capd l), .one (vi room)]) (res := [.one (.sl false true true [] 0), .one (vi 1)]) (ats := #[]) (ty := 0) (v := .tup [.one (.sl false true true [] 0), .one (vi 1)]) (H' := H108) [.tmp 0, .tmp 1] (by kernel_rfl) (by kernel_rfl) hr109 (by kernel_rfl)) trivial) (by kernel_rfl)) (by kernel_rfl) ?_
   refine Wp.gen (cs := []) hs110 ?_
   intro H111 hs112
   refine Wp.seq ?_
   refine Wp.regionSeq [] [(0, .y (.one (sv NI b nil capd l))), (5, .y (.one (.sl false true true [] 0))), (6, .y (.one (.sl false true true [] 0))), (8, .y (.one (.sl false true true [] 0))), (38, xb false)] H111
     (cast trivial (by kernel_rfl)) (by kernel_rfl) ?_
   refine Wp.condF (by kernel_rfl) ?_
   refine Wp.skip ?_
   refine Wp.seq ?_
   refine Wp.regionSeq [] [(0, .y (.one (sv NI b nil capd l))), (5, .y (.one (.sl false true true [] 0))), (6, .y (.one (.sl false true true [] 0))), (8, .y (.one (.sl false true true [] 0))), (10, xi 0)] H111
     (cast trivial (by kernel_rfl)) (by kernel_rfl) ?_
   refine Wp.block ?_
   refine Wp.loopU [(0, .y (.one (sv NI b nil capd l))), (5, .y (.one (.sl false true true [] 0))), (6, .y (.one (.sl false true true [] 0))), (8, .y (.one (.sl false true true [] 0))), (10, xi 0)] (some ([0, 5, 6, 8, 10], false)) (List.length H111) (by kernel_rfl) ?_
   refine WpL.step ?_
   refine Wp.seq ?_
   refine Wp.regionSeq [] [(0, .y (.one (sv NI b nil capd l))), (5, .y (.one (.sl false true true [] 0))), (6, .y (.one (.sl false true true [] 0))), (8, .y (.one (.sl false true true [] 0))), (10, xi 0), (42, xb false)] H111
     (cast trivial (by kernel_rfl)) (by kernel_rfl) ?_
   refine Wp.condF (by kernel_rfl) ?_
   refine Wp.exit ?_
   refine Eq.mpr (if_pos rfl) ?_
   refine Wp.seq ?_
   refine Wp.regionSeq [] [(0, .y (.one (sv NI b nil capd l))), (5, .y (.one (.sl false true true [] 0))), (6, .y (.one (.sl false true true [] 0))), (11, xi 0)] H111
     (cast trivial (by kernel_rfl)) (by kernel_rfl) ?_
   refine Wp.block ?_
   refine Wp.loopU [(0, .y (.one (sv NI b nil capd l))), (5, .y (.one (.sl false true true [] 0))), (6, .y (.one (.sl false true true [] 0))), (11, xi 0)] (some ([0, 5, 6, 11], false)) (List.length H111) (by kernel_rfl) ?_
   refine WpL.step ?_
   refine Wp.seq ?_
   refine Wp.regionSeq [] [(0, .y (.one (sv NI b nil capd l))), (5, .y (.one (.sl false true true [] 0))), (6, .y (.one (.sl false true true [] 0))), (11, xi 0), (58, xb false)] H111
     (cast trivial (by kernel_rfl)) (by kernel_rfl) ?_
   refine Wp.condF (by kernel_rfl) ?_
   refine Wp.exit ?_
   refine Eq.mpr (if_pos rfl) ?_
   refine Wp.seq ?_
   refine Wp.regionSeq [] [(0, .y (.one (sv NI b nil capd l))), (5, .y (.one (.sl false true true [] 0))), (6, .y (.one (.sl false true true [] 0))), (12, xi 0)] H111
     (cast trivial (by kernel_rfl)) (by kernel_rfl) ?_
   refine Wp.block ?_
   refine Wp.loopU [(0, .y (.one (sv NI b nil capd l))), (5, .y (.one (.sl false true true [] 0))), (6, .y (.one (.sl false true true [] 0))), (12, xi 0)] (some ([0, 5, 6, 12], false)) (List.length H111) (by kernel_rfl) ?_
   refine WpL.step ?_
   refine Wp.seq ?_
   refine Wp.regionSeq [] [(0, .y (.one (sv NI b nil capd l))), (5, .y (.one (.sl false true true [] 0))), (6, .y (.one (.sl false true true [] 0))), (12, xi 0), (70, xb false)] H111
     (cast trivial (by kernel_rfl)) (by kernel_rfl) ?_
   refine Wp.condF (by kernel_rfl) ?_
   refine Wp.exit ?_
   refine Eq.mpr (if_pos rfl) ?_
   refine Wp.regionSeq [(2, xb true, H111), (4, xb true, H111)] [(4, xb true)] H111
     (cast (And.intro (ob_pure (P := pg) (A := an) (H := H111) (g := 17) (vals := [.y (.one (.sl false true true [] 0)), .y (.one (sv NI b nil capd l))]) (xs0 := [.one (.sl false true true [] 0), .one (sv NI b nil capd l)]) (xs1 := [.one (.sl false true true [] 0), .one (sv NI b nil capd l)]) (res := [.one (vb true)]) (ats := #[]) (ty := 0) (v := xb true) [.tmp 0, .tmp 1] (by kernel_rfl) (by kernel_rfl) (snap_cons (by kernel_rfl) (snap_cons (by kernel_rfl) (snap_nil))) (by have := fn17 false true true b nil capd ([] : List Int) l (by first | rfl | omega | (simp only [List.length_nil]; omega) | (simp; done) | (simp; omega)) (by first | rfl | omega | (simp only [List.length_nil]; omega) | (simp; done) | (simp; omega)); rw [show decide (([] : List Int) = l) = true from decide_eq_true ((List.eq_nil_of_length_eq_zero (by omega)).symm)] at this; exact this) (by kernel_rfl)) (And.intro (ob_pure (P := pg) (A := an) (H := H111) (g := 10) (vals := []) (xs0 := []) (xs1 := []) (res := [.one (vb true)]) (ats := #[]) (ty := 0) (v := xb true) [] (by kernel_rfl) (by kernel_rfl) (snap_nil) fn10 (by kernel_rfl)) trivial)) (by kernel_rfl)) (by kernel_rfl) ?_
   refine Wp.ret ?_
   refine ⟨Or.inr rfl, [.one (vb true)], (by kernel_rfl), ?_⟩
   exact (by kernel_rfl)
  ·
   by_cases c113 : (65536 : Int) < room
   ·
    obtain ⟨_, H114, hr115, rfl, hs116⟩ := windows_high _ ([] : Go.Lg.Heap) (On.call [] [] rfl (On.nil [])) (c := .sl false true true [] 0) (room := room) (by omega)
    have hs116 : On [] H114 := On.flat hs116
    refine Wp.regionSeq [(2, .tup [.one (.sl false true true [] 0), .one (vi 1)], H114)] [(0, .y (.one (sv NI b nil capd l))), (1, xi room), (5, .y (.one (.sl false true true [] 0))), (6, .y (.one (.sl false true true [] 0))), (7, xi 1)] H114
      (cast (And.intro (ob_call (P := pg) (A := an) (H := []) (g := 15) (vals := [.y (.one (.sl false true true [] 0)), xi room]) (xs0 := [.one (.sl false true true [] 0), .one (vi room)]) (res := [.one (.sl false true true [] 0), .one (vi 1)]) (ats := #[]) (ty := 0) (v := .tup [.one (.sl false true true [] 0), .one (vi 1)]) (H' := H114) [.tmp 0, .tmp 1] (by kernel_rfl) (by kernel_rfl) hr115 (by kernel_rfl)) trivial) (by kernel_rfl)) (by kernel_rfl) ?_
    refine Wp.gen (cs := []) hs116 ?_
    intro H117 hs118
    obtain ⟨_, H119, hr120, rfl, hs121⟩ := refwins_high _ (H117 : Go.Lg.Heap) (On.call [] [] rfl hs118) (c := (sv NI b nil capd l)) (room := room) (by omega)
    have hs121 : On [] H119 := On.flat hs121
    refine Wp.regionSeq [(2, .tup [.one (.sl false true true [] 0), .one (vi 1)], H119)] [(0, .y (.one (sv NI b nil capd l))), (5, .y (.one (.sl false true true [] 0))), (6, .y (.one (.sl false true true [] 0))), (7, xi 1), (8, .y (.one (.sl false true true [] 0))), (9, xi 1)] H119
      (cast (And.intro (ob_call (P := pg) (A := an) (H := H117) (g := 16) (vals := [.y (.one (sv NI b nil capd l)), xi room]) (xs0 := [.one (sv NI b nil capd l), .one (vi room)]) (res := [.one (.sl false true true [] 0), .one (vi 1)]) (ats := #[]) (ty := 0) (v := .tup [.one (.sl false true true [] 0), .one (vi 1)]) (H' := H119) [.tmp 0, .tmp 1] (by kernel_rfl) (by kernel_rfl) hr120 (by kernel_rfl)) trivial) (by kernel_rfl)) (by kernel_rfl) ?_
    refine Wp.gen (cs := []) hs121 ?_
    intro H122 hs123
    refine Wp.seq ?_
    refine Wp.regionSeq [] [(0, .y (.one (sv NI b nil capd l))), (5, .y (.one (.sl false true true [] 0))), (6, .y (.one (.sl false true true [] 0))), (8, .y (.one (.sl false true true [] 0))), (38, xb false)] H122
      (cast trivial (by kernel_rfl)) (by kernel_rfl) ?_
    refine Wp.condF (by kernel_rfl) ?_
    refine Wp.skip ?_
    refine Wp.seq ?_
    refine Wp.regionSeq [] [(0, .y (.one (sv NI b nil capd l))), (5, .y (.one (.sl false true true [] 0))), (6, .y (.one (.sl false true true [] 0))), (8, .y (.one (.sl false true true [] 0))), (10, xi 0)] H122
      (cast trivial (by kernel_rfl)) (by kernel_rfl) ?_
    refine Wp.block ?_
    refine Wp.loopU [(0, .y (.one (sv NI b nil capd l))), (5, .y (.one (.sl false true true [] 0))), (6, .y (.one (.sl false true true [] 0))), (8, .y (.one (.sl false true true [] 0))), (10, xi 0)] (some ([0, 5, 6, 8, 10], false)) (List.length H122) (by kernel_rfl) ?_
    refine WpL.step ?_
    refine Wp.seq ?_
    refine Wp.regionSeq [] [(0, .y (.one (sv NI b nil capd l))), (5, .y (.one (.sl false true true [] 0))), (6, .y (.one (.sl false true true [] 0))), (8, .y (.one (.sl false true true [] 0))), (10, xi 0), (42, xb false)] H122
      (cast trivial (by kernel_rfl)) (by kernel_rfl) ?_
    refine Wp.condF (by kernel_rfl) ?_
    refine Wp.exit ?_
    refine Eq.mpr (if_pos rfl) ?_
    refine Wp.seq ?_
    refine Wp.regionSeq [] [(0, .y (.one (sv NI b nil capd l))), (5, .y (.one (.sl false true true [] 0))), (6, .y (.one (.sl false true true [] 0))), (11, xi 0)] H122
      (cast trivial (by kernel_rfl)) (by kernel_rfl) ?_
    refine Wp.block ?_
    refine Wp.loopU [(0, .y (.one (sv NI b nil capd l))), (5, .y (.one (.sl false true true [] 0))), (6, .y (.one (.sl false true true [] 0))), (11, xi 0)] (some ([0, 5, 6, 11], false)) (List.length H122) (by kernel_rfl) ?_
    refine WpL.step ?_
    refine Wp.seq ?_
    refine Wp.regionSeq [] [(0, .y (.one (sv NI b nil capd l))), (5, .y (.one (.sl false true true [] 0))), (6, .y (.one (.sl false true true [] 0))), (11, xi 0), (58, xb false)] H122
      (cast trivial (by kernel_rfl)) (by kernel_rfl) ?_
    refine Wp.condF (by kernel_rfl) ?_
    refine Wp.exit ?_
    refine Eq.mpr (if_pos rfl) ?_
    refine Wp.seq ?_
    refine Wp.regionSeq [] [(0, .y (.one (sv NI b nil capd l))), (5, .y (.one (.sl false true true [] 0))), (6, .y (.one (.sl false true true [] 0))), (12, xi 0)] H122
      (cast trivial (by kernel_rfl)) (by kernel_rfl) ?_
    refine Wp.block ?_
    refine Wp.loopU [(0, .y (.one (sv NI b nil capd l))), (5, .y (.one (.sl false true true [] 0))), (6, .y (.one (.sl false true true [] 0))), (12, xi 0)] (some ([0, 5, 6, 12], false)) (List.length H122) (by kernel_rfl) ?_
    refine WpL.step ?_
    refine Wp.seq ?_
    refine Wp.regionSeq [] [(0, .y (.one (sv NI b nil capd l))), (5, .y (.one (.sl false true true [] 0))), (6, .y (.one (.sl false true true [] 0))), (12, xi 0), (70, xb false)] H122
      (cast trivial (by kernel_rfl)) (by kernel_rfl) ?_
    refine Wp.condF (by kernel_rfl) ?_
    refine Wp.exit ?_
    refine Eq.mpr (if_pos rfl) ?_
    refine Wp.regionSeq [(2, xb true, H122), (4, xb true, H122)] [(4, xb true)] H122
      (cast (And.intro (ob_pure (P := pg) (A := an) (H := H122) (g := 17) (vals := [.y (.one (.sl false true true [] 0)), .y (.one (sv NI b nil capd l))]) (xs0 := [.one (.sl false true true [] 0), .one (sv NI b nil capd l)]) (xs1 := [.one (.sl false true true [] 0), .one (sv NI b nil capd l)]) (res := [.one (vb true)]) (ats := #[]) (ty := 0) (v := xb true) [.tmp 0, .tmp 1] (by kernel_rfl) (by kernel_rfl) (snap_cons (by kernel_rfl) (snap_cons (by kernel_rfl) (snap_nil))) (by have := fn17 false true true b nil capd ([] : List Int) l (by first | rfl | omega | (simp only [List.length_nil]; omega) | (simp; done) | (simp; omega)) (by first | rfl | omega | (simp only [List.length_nil]; omega) | (simp; done) | (simp; omega)); rw [show decide (([] : List Int) = l) = true from decide_eq_true ((List.eq_nil_of_length_eq_zero (by omega)).symm)] at this; exact this) (by kernel_rfl)) (And.intro (ob_pure (P := pg) (A := an) (H := H122) (g := 10) (vals := []) (xs0 := []) (xs1 := []) (res := [.one (vb true)]) (ats := #[]) (ty := 0) (v := xb true) [] (by kernel_rfl) (by kernel_rfl) (snap_nil) fn10 (by kernel_rfl)) trivial)) (by kernel_rfl)) (by kernel_rfl) ?_
    refine Wp.ret ?_
    refine ⟨Or.inr rfl, [.one (vb true)], (by kernel_rfl), ?_⟩
    exact (by kernel_rfl)
   ·
    obtain ⟨_, H124, hr125, rfl, hs126⟩ := windows_nil _ ([] : Go.Lg.Heap) (On.call [] [] rfl (On.nil [])) (room := room) (by omega) (by omega)
    have hs126 : On [] H124 := On.flat hs126
    refine Wp.regionSeq [(2, .tup [.one (.sl false true true [] 0), .one (vi 0)], H124)] [(0, .y (.one (sv NI b nil capd l))), (1, xi room), (5, .y (.one (.sl false true true [] 0))), (6, .y (.one (.sl false true true [] 0))), (7, xi 0)] H124
      (cast (And.intro (ob_call (P := pg) (A := an) (H := []) (g := 15) (vals := [.y (.one (.sl false true true [] 0)), xi room]) (xs0 := [.one (.sl false true true [] 0), .one (vi room)]) (res := [.one (.sl false true true [] 0), .one (vi 0)]) (ats := #[]) (ty := 0) (v := .tup [.one (.sl false true true [] 0), .one (vi 0)]) (H' := H124) [.tmp 0, .tmp 1] (by kernel_rfl) (by kernel_rfl) hr125 (by kernel_rfl)) trivial) (by kernel_rfl)) (by kernel_rfl) ?_
    refine Wp.gen (cs := []) hs126 ?_
    intro H127 hs128
    obtain ⟨_, H129, hr130, rfl, hs131⟩ := refwins_nil _ (H127 : Go.Lg.Heap) (On.call [] [] rfl hs128) (b := b) (nil := nil) (cp := capd) (l := l) (room := room) (by omega) (by omega) (by omega)
    have hs131 : On [] H129 := On.flat hs131
    refine Wp.regionSeq [(2, .tup [.one (.sl false true true [] 0), .one (vi 0)], H129)] [(0, .y (.one (sv NI b nil capd l))), (5, .y (.one (.sl false true true [] 0))), (6, .y (.one (.sl false true true [] 0))), (7, xi 0), (8, .y (.one (.sl false true true [] 0))), (9, xi 0)] H129
      (cast (And.intro (ob_call (P := pg) (A := an) (H := H127) (g := 16) (vals := [.y (.one (sv NI b nil capd l)), xi room]) (xs0 := [.one (sv NI b nil capd l), .one (vi room)]) (res := [.one (.sl false true true [] 0), .one (vi 0)]) (ats := #[]) (ty := 0) (v := .tup [.one (.sl false true true [] 0), .one (vi 0)]) (H' := H129) [.tmp 0, .tmp 1] (by kernel_rfl) (by kernel_rfl) hr130 (by kernel_rfl)) trivial) (by kernel_rfl)) (by kernel_rfl) ?_
    refine Wp.gen (cs := []) hs131 ?_
    intro H132 hs133
    refine Wp.seq ?_
    refine Wp.regionSeq [] [(0, .y (.one (sv NI b nil capd l))), (5, .y (.one (.sl false true true [] 0))), (6, .y (.one (.sl false true true [] 0))), (8, .y (.one (.sl false true true [] 0))), (38, xb false)] H132
      (cast trivial (by kernel_rfl)) (by kernel_rfl) ?_
    refine Wp.condF (by kernel_rfl) ?_
    refine Wp.skip ?_
    refine Wp.seq ?_
    refine Wp.regionSeq [] [(0, .y (.one (sv NI b nil capd l))), (5, .y (.one (.sl false true true [] 0))), (6, .y (.one (.sl false true true [] 0))), (8, .y (.one (.sl false true true [] 0))), (10, xi 0)] H132
      (cast trivial (by kernel_rfl)) (by kernel_rfl) ?_
    refine Wp.block ?_
    refine Wp.loopU [(0, .y (.one (sv NI b nil capd l))), (5, .y (.one (.sl false true true [] 0))), (6, .y (.one (.sl false true true [] 0))), (8, .y (.one (.sl false true true [] 0))), (10, xi 0)] (some ([0, 5, 6, 8, 10], false)) (List.length H132) (by kernel_rfl) ?_
    refine WpL.step ?_
    refine Wp.seq ?_
    refine Wp.regionSeq [] [(0, .y (.one (sv NI b nil capd l))), (5, .y (.one (.sl false true true [] 0))), (6, .y (.one (.sl false true true [] 0))), (8, .y (.one (.sl false true true [] 0))), (10, xi 0), (42, xb false)] H132
      (cast trivial (by kernel_rfl)) (by kernel_rfl) ?_
    refine Wp.condF (by kernel_rfl) ?_
    refine Wp.exit ?_
    refine Eq.mpr (if_pos rfl) ?_
    refine Wp.seq ?_
    refine Wp.regionSeq [] [(0, .y (.one (sv NI b nil capd l))), (5, .y (.one (.sl false true true [] 0))), (6, .y (.one (.sl false true true [] 0))), (11, xi 0)] H132
      (cast trivial (by kernel_rfl)) (by kernel_rfl) ?_
    refine Wp.block ?_
    refine Wp.loopU [(0, .y (.one (sv NI b nil capd l))), (5, .y (.one (.sl false true true [] 0))), (6, .y (.one (.sl false true true [] 0))), (11, xi 0)] (some ([0, 5, 6, 11], false)) (List.length H132) (by kernel_rfl) ?_
    refine WpL.step ?_
    refine Wp.seq ?_
    refine Wp.regionSeq [] [(0, .y (.one (sv NI b nil capd l))), (5, .y (.one (.sl false true true [] 0))), (6, .y (.one (.sl false true true [] 0))), (11, xi 0), (58, xb false)] H132
      (cast trivial (by kernel_rfl)) (by kernel_rfl) ?_
    refine Wp.condF (by kernel_rfl) ?_
    refine Wp.exit ?_
    refine Eq.mpr (if_pos rfl) ?_
    refine Wp.seq ?_
    refine Wp.regionSeq [] [(0, .y (.one (sv NI b nil capd l))), (5, .y (.one (.sl false true true [] 0))), (6, .y (.one (.sl false true true [] 0))), (12, xi 0)] H132
      (cast trivial (by kernel_rfl)) (by kernel_rfl) ?_
    refine Wp.block ?_
    refine Wp.loopU [(0, .y (.one (sv NI b nil capd l))), (5, .y (.one (.sl false true true [] 0))), (6, .y (.one (.sl false true true [] 0))), (12, xi 0)] (some ([0, 5, 6, 12], false)) (List.length H132) (by kernel_rfl) ?_
    refine WpL.step ?_
    refine Wp.seq ?_
    refine Wp.regionSeq [] [(0, .y (.one (sv NI b nil capd l))), (5, .y (.one (.sl false true true [] 0))), (6, .y (.one (.sl false true true [] 0))), (12, xi 0), (70, xb false)] H132
      (cast trivial (by kernel_rfl)) (by kernel_rfl) ?_
    refine Wp.condF (by kernel_rfl) ?_
    refine Wp.exit ?_
    refine Eq.mpr (if_pos rfl) ?_
    refine Wp.regionSeq [(2, xb true, H132), (4, xb true, H132)] [(4, xb true)] H132
      (cast (And.intro (ob_pure (P := pg) (A := an) (H := H132) (g := 17) (vals := [.y (.one (.sl false true true [] 0)), .y (.one (sv NI b nil capd l))]) (xs0 := [.one (.sl false true true [] 0), .one (sv NI b nil capd l)]) (xs1 := [.one (.sl false true true [] 0), .one (sv NI b nil capd l)]) (res := [.one (vb true)]) (ats := #[]) (ty := 0) (v := xb true) [.tmp 0, .tmp 1] (by kernel_rfl) (by kernel_rfl) (snap_cons (by kernel_rfl) (snap_cons (by kernel_rfl) (snap_nil))) (by have := fn17 false true true b nil capd ([] : List Int) l (by first | rfl | omega | (simp only [List.length_nil]; omega) | (simp; done) | (simp; omega)) (by first | rfl | omega | (simp only [List.length_nil]; omega) | (simp; done) | (simp; omega)); rw [show decide (([] : List Int) = l) = true from decide_eq_true ((List.eq_nil_of_length_eq_zero (by omega)).symm)] at this; exact this) (by kernel_rfl)) (And.intro (ob_pure (P := pg) (A := an) (H := H132) (g := 10) (vals := []) (xs0 := []) (xs1 := []) (res := [.one (vb true)]) (ats := #[]) (ty := 0) (v := xb true) [] (by kernel_rfl) (by kernel_rfl) (snap_nil) fn10 (by kernel_rfl)) trivial)) (by kernel_rfl)) (by kernel_rfl) ?_
    refine Wp.ret ?_
    refine ⟨Or.inr rfl, [.one (vb true)], (by kernel_rfl), ?_⟩
    exact (by kernel_rfl)
end Go.Proofs.Ytpoaaggjgmdpdaa
