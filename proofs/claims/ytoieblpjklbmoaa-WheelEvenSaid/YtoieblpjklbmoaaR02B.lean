/-
  Wheel: next and gap. (Printed by sx/r02.py.)
-/
import Derived.Test.YtoieblpjklbmoaaR02A
namespace Go.Proofs.Ytoieblpjklbmoaa
open Go.Lg
set_option linter.unusedVariables false
set_option maxRecDepth 100000
set_option linter.unusedSimpArgs false
def at_ (l : List Int) (i : Int) : Int := l.getD i.toNat 0
theorem at_of {l : List Int} {i x : Int} (h : l[i.toNat]? = some x) : at_ l i = x := by simp [at_, List.getD, h]
def distF (l : List Int) (c h : Int) : Nat → Int → Int
  | 0, n => n
  | k + 1, n => if at_ l ((h + n - 1) % (l.length : Int)) = c then n else distF l c h k (n + 1)
def dist (l : List Int) (c h : Int) : Int := distF l c h l.length 1
structure IsDist (l : List Int) (c h d : Int) : Prop where
  pos : 1 ≤ d
  le : d ≤ (l.length : Int)
  hit : at_ l ((h + d - 1) % (l.length : Int)) = c
  miss : ∀ n, 1 ≤ n → n < d → at_ l ((h + n - 1) % (l.length : Int)) ≠ c
theorem distF_is {l : List Int} {c h : Int} : ∀ (k : Nat) (n : Int), (∃ j, n ≤ j ∧ j < n + k ∧ at_ l ((h + j - 1) % (l.length : Int)) = c) →
    n ≤ distF l c h k n ∧ distF l c h k n < n + k ∧ at_ l ((h + distF l c h k n - 1) % (l.length : Int)) = c ∧ ∀ j, n ≤ j → j < distF l c h k n → at_ l ((h + j - 1) % (l.length : Int)) ≠ c := by
  intro k
  induction k with
  | zero => intro n ⟨j, h1, h2, _⟩; omega
  | succ k ih =>
    intro n ⟨j, h1, h2, h3⟩
    unfold distF
    split
    · rename_i hh
      exact ⟨by omega, by omega, hh, fun j h1 h2 => by omega⟩
    · rename_i hh
      have hj : n ≠ j := fun e => hh (by rw [e]; exact h3)
      obtain ⟨g1, g2, g3, g4⟩ := ih (n + 1) ⟨j, by omega, by omega, h3⟩
      refine ⟨by omega, by omega, g3, fun j h1 h2 => ?_⟩
      by_cases e : n = j
      · subst e; exact hh
      · exact g4 j (by omega) h2
theorem okW_mem {l : List Int} {c : Int} (h : okW l = true) (hc : inW c = true) : c ∈ l := by
  simp only [okW, Bool.and_eq_true, List.contains_iff_mem] at h
  obtain ⟨_, _, h0, h1, h2⟩ := h
  simp only [inW, decide_eq_true_eq] at hc
  rcases (show c = 0 ∨ c = 1 ∨ c = 2 by omega) with rfl | rfl | rfl
  · exact h0
  · exact h1
  · exact h2
theorem okW_elem {l : List Int} {i x : Int} (h : okW l = true) (hx : l[i.toNat]? = some x) : 0 ≤ x ∧ x < 3 := by
  simp only [okW, Bool.and_eq_true, List.all_eq_true] at h
  have := h.2.1 x (List.mem_of_getElem? hx)
  simpa [inW] using this
theorem okW_len {l : List Int} (h : okW l = true) : 3 ≤ (l.length : Int) ∧ (l.length : Int) ≤ 64 := by
  have h0 := okW_mem h (c := 0) (by decide)
  have h1 := okW_mem h (c := 1) (by decide)
  have h2 := okW_mem h (c := 2) (by decide)
  simp only [okW, Bool.and_eq_true, decide_eq_true_eq] at h
  refine ⟨?_, by omega⟩
  match l, h0, h1, h2 with
  | [], h0, _, _ => simp at h0
  | [a], h0, h1, _ => simp at h0 h1; omega
  | [a, b], h0, h1, h2 => simp at h0 h1 h2; omega
  | a :: b :: c :: r, _, _, _ => simp; omega
theorem dist_is {l : List Int} {c h : Int} (hl : okW l = true) (hc : inW c = true) (h0 : 0 ≤ h) (h1 : h < (l.length : Int)) : IsDist l c h (dist l c h) := by
  obtain ⟨j, hj, hx⟩ := List.getElem_of_mem (okW_mem hl hc)
  have hat : at_ l (j : Int) = c := at_of (by rw [Int.toNat_natCast, List.getElem?_eq_getElem hj, hx])
  have key : ∃ n, 1 ≤ n ∧ n < 1 + ((l.length : Nat) : Int) ∧ at_ l ((h + n - 1) % (l.length : Int)) = c := by
    by_cases hh : h ≤ j
    · refine ⟨j - h + 1, by omega, by omega, ?_⟩
      rw [show h + (j - h + 1) - 1 = (j : Int) by omega, Int.emod_eq_of_lt (by omega) (by omega)]
      exact hat
    · refine ⟨j - h + 1 + l.length, by omega, by omega, ?_⟩
      rw [show h + (j - h + 1 + l.length) - 1 = (j : Int) + l.length by omega, Int.add_emod_right, Int.emod_eq_of_lt (by omega) (by omega)]
      exact hat
  obtain ⟨g1, g2, g3, g4⟩ := distF_is l.length 1 key
  exact ⟨g1, by unfold dist; omega, g3, g4⟩
theorem IsDist.next {l : List Int} {c h d n x : Int} (hd : IsDist l c h d) (hle : n ≤ d) (hx : l[((h + n - 1) % (l.length : Int)).toNat]? = some x) (hne : ¬ x = c) : n + 1 ≤ d := by
  rcases (show n < d ∨ n = d by omega) with hh | rfl
  · omega
  · exact absurd ((at_of hx).symm.trans hd.hit) hne
theorem IsDist.last {l : List Int} {c h d n x : Int} (hd : IsDist l c h d) (hn : 1 ≤ n) (hle : n ≤ d) (hx : l[((h + n - 1) % (l.length : Int)).toNat]? = some x) (he : x = c) : n = d := by
  rcases (show n < d ∨ n = d by omega) with hh | rfl
  · exact absurd ((at_of hx).trans he) (hd.miss n hn hh)
  · rfl
def gapF (l : List Int) (c : Int) : Nat → Int
  | 0 => 0
  | k + 1 => if dist l c k > gapF l c k then dist l c k else gapF l c k
def gap (l : List Int) (c : Int) : Int := gapF l c l.length
theorem gapF_step {l : List Int} {c h m : Int} (h0 : 0 ≤ h) (hm : m = gapF l c h.toNat) : gapF l c (h + 1).toNat = if dist l c h > m then dist l c h else m := by
  rw [show (h + 1).toNat = h.toNat + 1 by omega, hm]
  show (if dist l c (h.toNat : Int) > _ then _ else _) = _
  rw [show (h.toNat : Int) = h by omega]
def hasW (h0 h1 h2 : Bool) (c : Int) : Bool := if c = 0 then h0 else if c = 1 then h1 else h2
def nx (l : List Int) (hand : Int) (h0 h1 h2 : Bool) : Int × Int × Int :=
  if okW l = false then (0, 0, 20) else if hand < 0 ∨ (l.length : Int) ≤ hand then (0, 0, 1) else
  let s := at_ l hand
  if hasW h0 h1 h2 (s % 3) then (s % 3, (hand + 1) % (l.length : Int), 0) else if hasW h0 h1 h2 ((s + 1) % 3) then ((s + 1) % 3, (hand + 1) % (l.length : Int), 0)
  else if hasW h0 h1 h2 ((s + 2) % 3) then ((s + 2) % 3, (hand + 1) % (l.length : Int), 0) else (0, 0, 3)
theorem fn11 (b nil capd : Bool) (l : List Int) (hl : (l.length : Int) ≤ 4611686018427387904) (hand : Int) (h0 h1 h2 : Bool) : PureC pg an 11 [.one (sv NI b nil capd l), .one (vi hand), .agg [vb h0, vb h1, vb h2]] [.one (vi (nx l hand h0 h1 h2).1), .one (vi (nx l hand h0 h1 h2).2.1), .one (vi (nx l hand h0 h1 h2).2.2)] := by
  refine Runs.of (fn := Try.f11) Try.func11 rfl (by kernel_rfl) [(0, .y (.one (sv NI b nil capd l))), (1, xi hand), (2, .y (.agg [vb h0, vb h1, vb h2]))] (by kernel_rfl) ?_
  refine Wp.regionSeq [] [(0, .y (.one (sv NI b nil capd l))), (1, xi hand), (5, .y (.one (.ptr 0 0)))] [.obj [vb h0, vb h1, vb h2]]
    (cast trivial (by kernel_rfl)) (by kernel_rfl) ?_
  refine Wp.seq ?_
  refine Wp.block ?_
  rcases Bool.eq_false_or_eq_true ((okW l)) with c1 | c1
  ·
    have hkz2 := okW_len c1
    refine Wp.regionSeq [(1, xi 0, [.obj [vb h0, vb h1, vb h2]])] [(0, .y (.one (sv NI b nil capd l))), (1, xi hand), (5, .y (.one (.ptr 0 0))), (11, xb false)] [.obj [vb h0, vb h1, vb h2]]
      (cast (And.intro (ob_pure (P := pg) (A := an) (H := [.obj [vb h0, vb h1, vb h2]]) (g := 13) (vals := [.y (.one (sv NI b nil capd l))]) (xs0 := [.one (sv NI b nil capd l)]) (xs1 := [.one (sv NI b nil capd l)]) (res := [.one (vi 0)]) (ats := #[]) (ty := 0) (v := xi 0) [.tmp 0] (by kernel_rfl) (by kernel_rfl) (by kernel_rfl) (by have := fn13 b nil capd l (by omega); rw [c1] at this; exact this) (by kernel_rfl)) trivial) (by kernel_rfl)) (by kernel_rfl) ?_
    refine Wp.condF (by kernel_rfl) ?_
    by_cases c3 : (hand : Int) < 0
    ·
      refine Wp.regionSeq [(1, xb true, [.obj [vb h0, vb h1, vb h2]])] [(0, .y (.one (sv NI b nil capd l))), (1, xi hand), (5, .y (.one (.ptr 0 0))), (15, xb true)] [.obj [vb h0, vb h1, vb h2]]
        (cast (And.intro (ob_raw (P := pg) (A := an) (vals := [xi hand, xi 0]) (H := [.obj [vb h0, vb h1, vb h2]]) (op := .binOp .lss 3 (.tmp 0) (.tmp 1) 3) (ty := 0) (r := xb (decide ((hand : Int) < 0))) (v := xb true) (by kernel_rfl) (congrArg (fun z => xb z) (decide_eq_true (by omega)))) trivial) (by kernel_rfl)) (by kernel_rfl) ?_
      refine Wp.condT (by kernel_rfl) ?_
      refine Wp.regionSeq [] [(6, xi 0), (7, xi 0), (8, xi 1)] [.obj [vb h0, vb h1, vb h2]]
        (cast trivial (by kernel_rfl)) (by kernel_rfl) ?_
      refine Wp.ret ?_
      exact ⟨Or.inr rfl, [.one (vi 0), .one (vi 0), .one (vi 1)], by kernel_rfl, (by have hp : nx l hand h0 h1 h2 = (0, 0, 1) := by { unfold nx; rw [c1]; rw [if_neg (by decide), if_pos (by omega)] }; rw [hp]; rfl)⟩
    ·
      by_cases c4 : ((l.length : Int) : Int) ≤ hand
      ·
        refine Wp.regionSeq [(1, xb false, [.obj [vb h0, vb h1, vb h2]]), (6, xb true, [.obj [vb h0, vb h1, vb h2]])] [(0, .y (.one (sv NI b nil capd l))), (1, xi hand), (5, .y (.one (.ptr 0 0))), (15, xb true)] [.obj [vb h0, vb h1, vb h2]]
          (cast (And.intro (ob_raw (P := pg) (A := an) (vals := [xi hand, xi 0]) (H := [.obj [vb h0, vb h1, vb h2]]) (op := .binOp .lss 3 (.tmp 0) (.tmp 1) 3) (ty := 0) (r := xb (decide ((hand : Int) < 0))) (v := xb false) (by kernel_rfl) (congrArg (fun z => xb z) (decide_eq_false (by omega)))) (And.intro (ob_raw (P := pg) (A := an) (vals := [xi hand, xi (l.length : Int)]) (H := [.obj [vb h0, vb h1, vb h2]]) (op := .binOp .geq 3 (.tmp 0) (.tmp 1) 3) (ty := 0) (r := xb (decide ((hand : Int) ≥ (l.length : Int)))) (v := xb true) (by kernel_rfl) (congrArg (fun z => xb z) (decide_eq_true (by omega)))) trivial)) (by kernel_rfl)) (by kernel_rfl) ?_
        refine Wp.condT (by kernel_rfl) ?_
        refine Wp.regionSeq [] [(6, xi 0), (7, xi 0), (8, xi 1)] [.obj [vb h0, vb h1, vb h2]]
          (cast trivial (by kernel_rfl)) (by kernel_rfl) ?_
        refine Wp.ret ?_
        exact ⟨Or.inr rfl, [.one (vi 0), .one (vi 0), .one (vi 1)], by kernel_rfl, (by have hp : nx l hand h0 h1 h2 = (0, 0, 1) := by { unfold nx; rw [c1]; rw [if_neg (by decide), if_pos (by omega)] }; rw [hp]; rfl)⟩
      ·
        refine Wp.regionSeq [(1, xb false, [.obj [vb h0, vb h1, vb h2]]), (6, xb false, [.obj [vb h0, vb h1, vb h2]])] [(0, .y (.one (sv NI b nil capd l))), (1, xi hand), (5, .y (.one (.ptr 0 0))), (15, xb false)] [.obj [vb h0, vb h1, vb h2]]
          (cast (And.intro (ob_raw (P := pg) (A := an) (vals := [xi hand, xi 0]) (H := [.obj [vb h0, vb h1, vb h2]]) (op := .binOp .lss 3 (.tmp 0) (.tmp 1) 3) (ty := 0) (r := xb (decide ((hand : Int) < 0))) (v := xb false) (by kernel_rfl) (congrArg (fun z => xb z) (decide_eq_false (by omega)))) (And.intro (ob_raw (P := pg) (A := an) (vals := [xi hand, xi (l.length : Int)]) (H := [.obj [vb h0, vb h1, vb h2]]) (op := .binOp .geq 3 (.tmp 0) (.tmp 1) 3) (ty := 0) (r := xb (decide ((hand : Int) ≥ (l.length : Int)))) (v := xb false) (by kernel_rfl) (congrArg (fun z => xb z) (decide_eq_false (by omega)))) trivial)) (by kernel_rfl)) (by kernel_rfl) ?_
        refine Wp.condF (by kernel_rfl) ?_
        refine Wp.skip ?_
        refine Wp.seq ?_
        refine Wp.regionSeq [] [(0, .y (.one (sv NI b nil capd l))), (1, xi hand), (5, .y (.one (.ptr 0 0))), (24, xi 0)] [.obj [vb h0, vb h1, vb h2]]
          (cast trivial (by kernel_rfl)) (by kernel_rfl) ?_
        refine Wp.block ?_
        refine Wp.loopU [(0, .y (.one (sv NI b nil capd l))), (1, xi hand), (5, .y (.one (.ptr 0 0))), (24, xi 0)] (some ([0, 1, 5, 24], true)) 1 (by kernel_rfl) ?_
        refine WpL.step ?_
        refine Wp.regionSeq [] [(0, .y (.one (sv NI b nil capd l))), (1, xi hand), (5, .y (.one (.ptr 0 0))), (24, xi 0), (25, xb true)] [.obj [vb h0, vb h1, vb h2]]
          (cast trivial (by kernel_rfl)) (by kernel_rfl) ?_
        refine Wp.seq ?_
        refine Wp.condT (by kernel_rfl) ?_
        refine Wp.skip ?_
        refine Wp.seq ?_
        refine Wp.block ?_
        refine Wp.regionSeq [] [(0, .y (.one (sv NI b nil capd l))), (1, xi hand), (5, .y (.one (.ptr 0 0))), (9, xi 0), (24, xi 0)] [.obj [vb h0, vb h1, vb h2]]
          (cast trivial (by kernel_rfl)) (by kernel_rfl) ?_
        obtain ⟨x5, hx5⟩ : ∃ x, l[(hand : Int).toNat]? = some x := get_of (by omega)
        have hez6 := okW_elem c1 hx5
        refine Wp.regionSeq [(2, .y (.one (.rd ([vi x5] ++ (l.drop ((hand : Int).toNat + 1)).flatMap (enc NI)))), [.obj [vb h0, vb h1, vb h2]]), (5, xi x5, [.obj [vb h0, vb h1, vb h2]]), (6, xi (x5 % 3), [.obj [vb h0, vb h1, vb h2]])] [(0, .y (.one (sv NI b nil capd l))), (1, xi hand), (5, .y (.one (.ptr 0 0))), (10, xi (x5 % 3)), (24, xi 0)] [.obj [vb h0, vb h1, vb h2]]
          (cast (And.intro (ob_index (P := pg) (A := an) (H := [.obj [vb h0, vb h1, vb h2]]) (s := NI) (b := b) (nil := nil) (capd := capd) (t := 22) (el := 3) (i := hand) Try.underlying22 (by kernel_rfl) (by kernel_rfl) (by omega) hx5) (And.intro (ob_raw (P := pg) (A := an) (vals := [xi x5, xi 0]) (H := [.obj [vb h0, vb h1, vb h2]]) (op := .binOp .add 3 (.tmp 0) (.tmp 1) 3) (ty := 0) (r := xi (IntKind.wrap .i64 (x5 + 0))) (v := xi x5) (by kernel_rfl) (congrArg (fun z => xi z) ((wrap64 (by omega)).trans (by omega)))) (And.intro (ob_raw (P := pg) (A := an) (vals := [xi x5, xi 3]) (H := [.obj [vb h0, vb h1, vb h2]]) (op := .binOp .rem 3 (.tmp 0) (.tmp 1) 3) (ty := 0) (r := xi (Int.tmod x5 3)) (v := xi (x5 % 3)) (by kernel_rfl) (congrArg (fun z => xi z) (Int.tmod_eq_emod_of_nonneg (by omega)))) trivial))) (by kernel_rfl)) (by kernel_rfl) ?_
        rcases (show x5 = 0 ∨ x5 = 1 ∨ x5 = 2 from by omega) with rfl | rfl | rfl
        ·
          rcases Bool.eq_false_or_eq_true (h0) with c7 | c7
          ·
            refine Wp.regionSeq [(2, xb true, [.obj [vb h0, vb h1, vb h2]])] [(0, .y (.one (sv NI b nil capd l))), (1, xi hand), (5, .y (.one (.ptr 0 0))), (10, xi 0), (24, xi 0), (36, xb true)] [.obj [vb h0, vb h1, vb h2]]
              (cast (And.intro (ob_raw (P := pg) (A := an) (vals := [.y (.one (.ptr 0 0))]) (H := [.obj [vb h0, vb h1, vb h2]]) (op := .load 4 (.tmp 0)) (ty := 0) (r := xb h0) (v := xb true) (by kernel_rfl) (congrArg (fun z => xb z) (c7))) trivial) (by kernel_rfl)) (by kernel_rfl) ?_
            refine Wp.condT (by kernel_rfl) ?_
            have hmz8 := mod_is (a := (hand + 1)) (b := (l.length : Int)) (by omega) (by omega)
            refine Wp.regionSeq [(2, xi (hand + 1), [.obj [vb h0, vb h1, vb h2]]), (5, xi ((hand + 1) % (l.length : Int)), [.obj [vb h0, vb h1, vb h2]])] [(6, xi 0), (7, xi ((hand + 1) % (l.length : Int))), (8, xi 0)] [.obj [vb h0, vb h1, vb h2]]
              (cast (And.intro (ob_raw (P := pg) (A := an) (vals := [xi hand, xi 1]) (H := [.obj [vb h0, vb h1, vb h2]]) (op := .binOp .add 3 (.tmp 0) (.tmp 1) 3) (ty := 0) (r := xi (IntKind.wrap .i64 (hand + 1))) (v := xi (hand + 1)) (by kernel_rfl) (congrArg (fun z => xi z) ((wrap64 (by omega)).trans (by omega)))) (And.intro (ob_rem (P := pg) (A := an) (H := [.obj [vb h0, vb h1, vb h2]]) (t := 3) (u := 3) (ty := 0) (a := (hand + 1)) (b := (l.length : Int)) (by omega) (by omega)) trivial)) (by kernel_rfl)) (by kernel_rfl) ?_
            refine Wp.ret ?_
            exact ⟨Or.inr rfl, [.one (vi 0), .one (vi ((hand + 1) % (l.length : Int))), .one (vi 0)], by kernel_rfl, (by have hp : nx l hand h0 h1 h2 = (0, ((hand + 1) % (l.length : Int)), 0) := by { unfold nx; rw [c1]; rw [if_neg (by decide), if_neg (by omega)]; rw [show at_ l hand = 0 from at_of hx5]; simp [hasW, c7] }; rw [hp]; rfl)⟩
          ·
            refine Wp.regionSeq [(2, xb false, [.obj [vb h0, vb h1, vb h2]])] [(0, .y (.one (sv NI b nil capd l))), (1, xi hand), (5, .y (.one (.ptr 0 0))), (10, xi 0), (24, xi 0), (36, xb false)] [.obj [vb h0, vb h1, vb h2]]
              (cast (And.intro (ob_raw (P := pg) (A := an) (vals := [.y (.one (.ptr 0 0))]) (H := [.obj [vb h0, vb h1, vb h2]]) (op := .load 4 (.tmp 0)) (ty := 0) (r := xb h0) (v := xb false) (by kernel_rfl) (congrArg (fun z => xb z) (c7))) trivial) (by kernel_rfl)) (by kernel_rfl) ?_
            refine Wp.condF (by kernel_rfl) ?_
            refine Wp.skip ?_
            refine Wp.region [] [(0, .y (.one (sv NI b nil capd l))), (1, xi hand), (5, .y (.one (.ptr 0 0))), (24, xi 1)] [.obj [vb h0, vb h1, vb h2]]
              (cast trivial (by kernel_rfl)) (by kernel_rfl) ?_
            refine ⟨[(0, .y (.one (sv NI b nil capd l))), (1, xi hand), (5, .y (.one (.ptr 0 0))), (24, xi 1)], [.obj [vb h0, vb h1, vb h2]], by kernel_rfl, ?_⟩
            refine WpL.step ?_
            refine Wp.regionSeq [] [(0, .y (.one (sv NI b nil capd l))), (1, xi hand), (5, .y (.one (.ptr 0 0))), (24, xi 1), (25, xb true)] [.obj [vb h0, vb h1, vb h2]]
              (cast trivial (by kernel_rfl)) (by kernel_rfl) ?_
            refine Wp.seq ?_
            refine Wp.condT (by kernel_rfl) ?_
            refine Wp.skip ?_
            refine Wp.seq ?_
            refine Wp.block ?_
            refine Wp.regionSeq [] [(0, .y (.one (sv NI b nil capd l))), (1, xi hand), (5, .y (.one (.ptr 0 0))), (9, xi 1), (24, xi 1)] [.obj [vb h0, vb h1, vb h2]]
              (cast trivial (by kernel_rfl)) (by kernel_rfl) ?_
            refine Wp.regionSeq [(2, .y (.one (.rd ([vi 0] ++ (l.drop ((hand : Int).toNat + 1)).flatMap (enc NI)))), [.obj [vb h0, vb h1, vb h2]])] [(0, .y (.one (sv NI b nil capd l))), (1, xi hand), (5, .y (.one (.ptr 0 0))), (10, xi 1), (24, xi 1)] [.obj [vb h0, vb h1, vb h2]]
              (cast (And.intro (ob_index (P := pg) (A := an) (H := [.obj [vb h0, vb h1, vb h2]]) (s := NI) (b := b) (nil := nil) (capd := capd) (t := 22) (el := 3) (i := hand) Try.underlying22 (by kernel_rfl) (by kernel_rfl) (by omega) hx5) trivial) (by kernel_rfl)) (by kernel_rfl) ?_
            rcases Bool.eq_false_or_eq_true (h1) with c10 | c10
            ·
              refine Wp.regionSeq [(2, xb true, [.obj [vb h0, vb h1, vb h2]])] [(0, .y (.one (sv NI b nil capd l))), (1, xi hand), (5, .y (.one (.ptr 0 0))), (10, xi 1), (24, xi 1), (36, xb true)] [.obj [vb h0, vb h1, vb h2]]
                (cast (And.intro (ob_raw (P := pg) (A := an) (vals := [.y (.one (.ptr 0 1))]) (H := [.obj [vb h0, vb h1, vb h2]]) (op := .load 4 (.tmp 0)) (ty := 0) (r := xb h1) (v := xb true) (by kernel_rfl) (congrArg (fun z => xb z) (c10))) trivial) (by kernel_rfl)) (by kernel_rfl) ?_
              refine Wp.condT (by kernel_rfl) ?_
              have hmz11 := mod_is (a := (hand + 1)) (b := (l.length : Int)) (by omega) (by omega)
              refine Wp.regionSeq [(2, xi (hand + 1), [.obj [vb h0, vb h1, vb h2]]), (5, xi ((hand + 1) % (l.length : Int)), [.obj [vb h0, vb h1, vb h2]])] [(6, xi 1), (7, xi ((hand + 1) % (l.length : Int))), (8, xi 0)] [.obj [vb h0, vb h1, vb h2]]
                (cast (And.intro (ob_raw (P := pg) (A := an) (vals := [xi hand, xi 1]) (H := [.obj [vb h0, vb h1, vb h2]]) (op := .binOp .add 3 (.tmp 0) (.tmp 1) 3) (ty := 0) (r := xi (IntKind.wrap .i64 (hand + 1))) (v := xi (hand + 1)) (by kernel_rfl) (congrArg (fun z => xi z) ((wrap64 (by omega)).trans (by omega)))) (And.intro (ob_rem (P := pg) (A := an) (H := [.obj [vb h0, vb h1, vb h2]]) (t := 3) (u := 3) (ty := 0) (a := (hand + 1)) (b := (l.length : Int)) (by omega) (by omega)) trivial)) (by kernel_rfl)) (by kernel_rfl) ?_
              refine Wp.ret ?_
              exact ⟨Or.inr rfl, [.one (vi 1), .one (vi ((hand + 1) % (l.length : Int))), .one (vi 0)], by kernel_rfl, (by have hp : nx l hand h0 h1 h2 = (1, ((hand + 1) % (l.length : Int)), 0) := by { unfold nx; rw [c1]; rw [if_neg (by decide), if_neg (by omega)]; rw [show at_ l hand = 0 from at_of hx5]; simp [hasW, c7, c10] }; rw [hp]; rfl)⟩
            ·
              refine Wp.regionSeq [(2, xb false, [.obj [vb h0, vb h1, vb h2]])] [(0, .y (.one (sv NI b nil capd l))), (1, xi hand), (5, .y (.one (.ptr 0 0))), (10, xi 1), (24, xi 1), (36, xb false)] [.obj [vb h0, vb h1, vb h2]]
                (cast (And.intro (ob_raw (P := pg) (A := an) (vals := [.y (.one (.ptr 0 1))]) (H := [.obj [vb h0, vb h1, vb h2]]) (op := .load 4 (.tmp 0)) (ty := 0) (r := xb h1) (v := xb false) (by kernel_rfl) (congrArg (fun z => xb z) (c10))) trivial) (by kernel_rfl)) (by kernel_rfl) ?_
              refine Wp.condF (by kernel_rfl) ?_
              refine Wp.skip ?_
              refine Wp.region [] [(0, .y (.one (sv NI b nil capd l))), (1, xi hand), (5, .y (.one (.ptr 0 0))), (24, xi 2)] [.obj [vb h0, vb h1, vb h2]]
                (cast trivial (by kernel_rfl)) (by kernel_rfl) ?_
              refine ⟨[(0, .y (.one (sv NI b nil capd l))), (1, xi hand), (5, .y (.one (.ptr 0 0))), (24, xi 2)], [.obj [vb h0, vb h1, vb h2]], by kernel_rfl, ?_⟩
              refine WpL.step ?_
              refine Wp.regionSeq [] [(0, .y (.one (sv NI b nil capd l))), (1, xi hand), (5, .y (.one (.ptr 0 0))), (24, xi 2), (25, xb true)] [.obj [vb h0, vb h1, vb h2]]
                (cast trivial (by kernel_rfl)) (by kernel_rfl) ?_
              refine Wp.seq ?_
              refine Wp.condT (by kernel_rfl) ?_
              refine Wp.skip ?_
              refine Wp.seq ?_
              refine Wp.block ?_
              refine Wp.regionSeq [] [(0, .y (.one (sv NI b nil capd l))), (1, xi hand), (5, .y (.one (.ptr 0 0))), (9, xi 2), (24, xi 2)] [.obj [vb h0, vb h1, vb h2]]
                (cast trivial (by kernel_rfl)) (by kernel_rfl) ?_
              refine Wp.regionSeq [(2, .y (.one (.rd ([vi 0] ++ (l.drop ((hand : Int).toNat + 1)).flatMap (enc NI)))), [.obj [vb h0, vb h1, vb h2]])] [(0, .y (.one (sv NI b nil capd l))), (1, xi hand), (5, .y (.one (.ptr 0 0))), (10, xi 2), (24, xi 2)] [.obj [vb h0, vb h1, vb h2]]
                (cast (And.intro (ob_index (P := pg) (A := an) (H := [.obj [vb h0, vb h1, vb h2]]) (s := NI) (b := b) (nil := nil) (capd := capd) (t := 22) (el := 3) (i := hand) Try.underlying22 (by kernel_rfl) (by kernel_rfl) (by omega) hx5) trivial) (by kernel_rfl)) (by kernel_rfl) ?_
              rcases Bool.eq_false_or_eq_true (h2) with c13 | c13
              ·
                refine Wp.regionSeq [(2, xb true, [.obj [vb h0, vb h1, vb h2]])] [(0, .y (.one (sv NI b nil capd l))), (1, xi hand), (5, .y (.one (.ptr 0 0))), (10, xi 2), (24, xi 2), (36, xb true)] [.obj [vb h0, vb h1, vb h2]]
                  (cast (And.intro (ob_raw (P := pg) (A := an) (vals := [.y (.one (.ptr 0 2))]) (H := [.obj [vb h0, vb h1, vb h2]]) (op := .load 4 (.tmp 0)) (ty := 0) (r := xb h2) (v := xb true) (by kernel_rfl) (congrArg (fun z => xb z) (c13))) trivial) (by kernel_rfl)) (by kernel_rfl) ?_
                refine Wp.condT (by kernel_rfl) ?_
                have hmz14 := mod_is (a := (hand + 1)) (b := (l.length : Int)) (by omega) (by omega)
                refine Wp.regionSeq [(2, xi (hand + 1), [.obj [vb h0, vb h1, vb h2]]), (5, xi ((hand + 1) % (l.length : Int)), [.obj [vb h0, vb h1, vb h2]])] [(6, xi 2), (7, xi ((hand + 1) % (l.length : Int))), (8, xi 0)] [.obj [vb h0, vb h1, vb h2]]
                  (cast (And.intro (ob_raw (P := pg) (A := an) (vals := [xi hand, xi 1]) (H := [.obj [vb h0, vb h1, vb h2]]) (op := .binOp .add 3 (.tmp 0) (.tmp 1) 3) (ty := 0) (r := xi (IntKind.wrap .i64 (hand + 1))) (v := xi (hand + 1)) (by kernel_rfl) (congrArg (fun z => xi z) ((wrap64 (by omega)).trans (by omega)))) (And.intro (ob_rem (P := pg) (A := an) (H := [.obj [vb h0, vb h1, vb h2]]) (t := 3) (u := 3) (ty := 0) (a := (hand + 1)) (b := (l.length : Int)) (by omega) (by omega)) trivial)) (by kernel_rfl)) (by kernel_rfl) ?_
                refine Wp.ret ?_
                exact ⟨Or.inr rfl, [.one (vi 2), .one (vi ((hand + 1) % (l.length : Int))), .one (vi 0)], by kernel_rfl, (by have hp : nx l hand h0 h1 h2 = (2, ((hand + 1) % (l.length : Int)), 0) := by { unfold nx; rw [c1]; rw [if_neg (by decide), if_neg (by omega)]; rw [show at_ l hand = 0 from at_of hx5]; simp [hasW, c7, c10, c13] }; rw [hp]; rfl)⟩
              ·
                refine Wp.regionSeq [(2, xb false, [.obj [vb h0, vb h1, vb h2]])] [(0, .y (.one (sv NI b nil capd l))), (1, xi hand), (5, .y (.one (.ptr 0 0))), (10, xi 2), (24, xi 2), (36, xb false)] [.obj [vb h0, vb h1, vb h2]]
                  (cast (And.intro (ob_raw (P := pg) (A := an) (vals := [.y (.one (.ptr 0 2))]) (H := [.obj [vb h0, vb h1, vb h2]]) (op := .load 4 (.tmp 0)) (ty := 0) (r := xb h2) (v := xb false) (by kernel_rfl) (congrArg (fun z => xb z) (c13))) trivial) (by kernel_rfl)) (by kernel_rfl) ?_
                refine Wp.condF (by kernel_rfl) ?_
                refine Wp.skip ?_
                refine Wp.region [] [(0, .y (.one (sv NI b nil capd l))), (1, xi hand), (5, .y (.one (.ptr 0 0))), (24, xi 3)] [.obj [vb h0, vb h1, vb h2]]
                  (cast trivial (by kernel_rfl)) (by kernel_rfl) ?_
                refine ⟨[(0, .y (.one (sv NI b nil capd l))), (1, xi hand), (5, .y (.one (.ptr 0 0))), (24, xi 3)], [.obj [vb h0, vb h1, vb h2]], by kernel_rfl, ?_⟩
                refine WpL.step ?_
                refine Wp.regionSeq [] [(0, .y (.one (sv NI b nil capd l))), (1, xi hand), (5, .y (.one (.ptr 0 0))), (24, xi 3), (25, xb false)] [.obj [vb h0, vb h1, vb h2]]
                  (cast trivial (by kernel_rfl)) (by kernel_rfl) ?_
                refine Wp.seq ?_
                refine Wp.condF (by kernel_rfl) ?_
                refine Wp.exit ?_
                refine Eq.mpr (if_pos rfl) ?_
                refine Wp.regionSeq [] [(6, xi 0), (7, xi 0), (8, xi 3)] [.obj [vb h0, vb h1, vb h2]]
                  (cast trivial (by kernel_rfl)) (by kernel_rfl) ?_
                refine Wp.ret ?_
                exact ⟨Or.inr rfl, [.one (vi 0), .one (vi 0), .one (vi 3)], by kernel_rfl, (by have hp : nx l hand h0 h1 h2 = (0, 0, 3) := by { unfold nx; rw [c1]; rw [if_neg (by decide), if_neg (by omega)]; rw [show at_ l hand = 0 from at_of hx5]; simp [hasW, c7, c10, c13] }; rw [hp]; rfl)⟩
        ·
          rcases Bool.eq_false_or_eq_true (h1) with c16 | c16
          ·
            refine Wp.regionSeq [(2, xb true, [.obj [vb h0, vb h1, vb h2]])] [(0, .y (.one (sv NI b nil capd l))), (1, xi hand), (5, .y (.one (.ptr 0 0))), (10, xi 1), (24, xi 0), (36, xb true)] [.obj [vb h0, vb h1, vb h2]]
              (cast (And.intro (ob_raw (P := pg) (A := an) (vals := [.y (.one (.ptr 0 1))]) (H := [.obj [vb h0, vb h1, vb h2]]) (op := .load 4 (.tmp 0)) (ty := 0) (r := xb h1) (v := xb true) (by kernel_rfl) (congrArg (fun z => xb z) (c16))) trivial) (by kernel_rfl)) (by kernel_rfl) ?_
            refine Wp.condT (by kernel_rfl) ?_
            have hmz17 := mod_is (a := (hand + 1)) (b := (l.length : Int)) (by omega) (by omega)
            refine Wp.regionSeq [(2, xi (hand + 1), [.obj [vb h0, vb h1, vb h2]]), (5, xi ((hand + 1) % (l.length : Int)), [.obj [vb h0, vb h1, vb h2]])] [(6, xi 1), (7, xi ((hand + 1) % (l.length : Int))), (8, xi 0)] [.obj [vb h0, vb h1, vb h2]]
              (cast (And.intro (ob_raw (P := pg) (A := an) (vals := [xi hand, xi 1]) (H := [.obj [vb h0, vb h1, vb h2]]) (op := .binOp .add 3 (.tmp 0) (.tmp 1) 3) (ty := 0) (r := xi (IntKind.wrap .i64 (hand + 1))) (v := xi (hand + 1)) (by kernel_rfl) (congrArg (fun z => xi z) ((wrap64 (by omega)).trans (by omega)))) (And.intro (ob_rem (P := pg) (A := an) (H := [.obj [vb h0, vb h1, vb h2]]) (t := 3) (u := 3) (ty := 0) (a := (hand + 1)) (b := (l.length : Int)) (by omega) (by omega)) trivial)) (by kernel_rfl)) (by kernel_rfl) ?_
            refine Wp.ret ?_
            exact ⟨Or.inr rfl, [.one (vi 1), .one (vi ((hand + 1) % (l.length : Int))), .one (vi 0)], by kernel_rfl, (by have hp : nx l hand h0 h1 h2 = (1, ((hand + 1) % (l.length : Int)), 0) := by { unfold nx; rw [c1]; rw [if_neg (by decide), if_neg (by omega)]; rw [show at_ l hand = 1 from at_of hx5]; simp [hasW, c16] }; rw [hp]; rfl)⟩
          ·
            refine Wp.regionSeq [(2, xb false, [.obj [vb h0, vb h1, vb h2]])] [(0, .y (.one (sv NI b nil capd l))), (1, xi hand), (5, .y (.one (.ptr 0 0))), (10, xi 1), (24, xi 0), (36, xb false)] [.obj [vb h0, vb h1, vb h2]]
              (cast (And.intro (ob_raw (P := pg) (A := an) (vals := [.y (.one (.ptr 0 1))]) (H := [.obj [vb h0, vb h1, vb h2]]) (op := .load 4 (.tmp 0)) (ty := 0) (r := xb h1) (v := xb false) (by kernel_rfl) (congrArg (fun z => xb z) (c16))) trivial) (by kernel_rfl)) (by kernel_rfl) ?_
            refine Wp.condF (by kernel_rfl) ?_
            refine Wp.skip ?_
            refine Wp.region [] [(0, .y (.one (sv NI b nil capd l))), (1, xi hand), (5, .y (.one (.ptr 0 0))), (24, xi 1)] [.obj [vb h0, vb h1, vb h2]]
              (cast trivial (by kernel_rfl)) (by kernel_rfl) ?_
            refine ⟨[(0, .y (.one (sv NI b nil capd l))), (1, xi hand), (5, .y (.one (.ptr 0 0))), (24, xi 1)], [.obj [vb h0, vb h1, vb h2]], by kernel_rfl, ?_⟩
            refine WpL.step ?_
            refine Wp.regionSeq [] [(0, .y (.one (sv NI b nil capd l))), (1, xi hand), (5, .y (.one (.ptr 0 0))), (24, xi 1), (25, xb true)] [.obj [vb h0, vb h1, vb h2]]
              (cast trivial (by kernel_rfl)) (by kernel_rfl) ?_
            refine Wp.seq ?_
            refine Wp.condT (by kernel_rfl) ?_
            refine Wp.skip ?_
            refine Wp.seq ?_
            refine Wp.block ?_
            refine Wp.regionSeq [] [(0, .y (.one (sv NI b nil capd l))), (1, xi hand), (5, .y (.one (.ptr 0 0))), (9, xi 1), (24, xi 1)] [.obj [vb h0, vb h1, vb h2]]
              (cast trivial (by kernel_rfl)) (by kernel_rfl) ?_
            refine Wp.regionSeq [(2, .y (.one (.rd ([vi 1] ++ (l.drop ((hand : Int).toNat + 1)).flatMap (enc NI)))), [.obj [vb h0, vb h1, vb h2]])] [(0, .y (.one (sv NI b nil capd l))), (1, xi hand), (5, .y (.one (.ptr 0 0))), (10, xi 2), (24, xi 1)] [.obj [vb h0, vb h1, vb h2]]
              (cast (And.intro (ob_index (P := pg) (A := an) (H := [.obj [vb h0, vb h1, vb h2]]) (s := NI) (b := b) (nil := nil) (capd := capd) (t := 22) (el := 3) (i := hand) Try.underlying22 (by kernel_rfl) (by kernel_rfl) (by omega) hx5) trivial) (by kernel_rfl)) (by kernel_rfl) ?_
            rcases Bool.eq_false_or_eq_true (h2) with c19 | c19
            ·
              refine Wp.regionSeq [(2, xb true, [.obj [vb h0, vb h1, vb h2]])] [(0, .y (.one (sv NI b nil capd l))), (1, xi hand), (5, .y (.one (.ptr 0 0))), (10, xi 2), (24, xi 1), (36, xb true)] [.obj [vb h0, vb h1, vb h2]]
                (cast (And.intro (ob_raw (P := pg) (A := an) (vals := [.y (.one (.ptr 0 2))]) (H := [.obj [vb h0, vb h1, vb h2]]) (op := .load 4 (.tmp 0)) (ty := 0) (r := xb h2) (v := xb true) (by kernel_rfl) (congrArg (fun z => xb z) (c19))) trivial) (by kernel_rfl)) (by kernel_rfl) ?_
              refine Wp.condT (by kernel_rfl) ?_
              have hmz20 := mod_is (a := (hand + 1)) (b := (l.length : Int)) (by omega) (by omega)
              refine Wp.regionSeq [(2, xi (hand + 1), [.obj [vb h0, vb h1, vb h2]]), (5, xi ((hand + 1) % (l.length : Int)), [.obj [vb h0, vb h1, vb h2]])] [(6, xi 2), (7, xi ((hand + 1) % (l.length : Int))), (8, xi 0)] [.obj [vb h0, vb h1, vb h2]]
                (cast (And.intro (ob_raw (P := pg) (A := an) (vals := [xi hand, xi 1]) (H := [.obj [vb h0, vb h1, vb h2]]) (op := .binOp .add 3 (.tmp 0) (.tmp 1) 3) (ty := 0) (r := xi (IntKind.wrap .i64 (hand + 1))) (v := xi (hand + 1)) (by kernel_rfl) (congrArg (fun z => xi z) ((wrap64 (by omega)).trans (by omega)))) (And.intro (ob_rem (P := pg) (A := an) (H := [.obj [vb h0, vb h1, vb h2]]) (t := 3) (u := 3) (ty := 0) (a := (hand + 1)) (b := (l.length : Int)) (by omega) (by omega)) trivial)) (by kernel_rfl)) (by kernel_rfl) ?_
              refine Wp.ret ?_
              exact ⟨Or.inr rfl, [.one (vi 2), .one (vi ((hand + 1) % (l.length : Int))), .one (vi 0)], by kernel_rfl, (by have hp : nx l hand h0 h1 h2 = (2, ((hand + 1) % (l.length : Int)), 0) := by { unfold nx; rw [c1]; rw [if_neg (by decide), if_neg (by omega)]; rw [show at_ l hand = 1 from at_of hx5]; simp [hasW, c16, c19] }; rw [hp]; rfl)⟩
            ·
              refine Wp.regionSeq [(2, xb false, [.obj [vb h0, vb h1, vb h2]])] [(0, .y (.one (sv NI b nil capd l))), (1, xi hand), (5, .y (.one (.ptr 0 0))), (10, xi 2), (24, xi 1), (36, xb false)] [.obj [vb h0, vb h1, vb h2]]
                (cast (And.intro (ob_raw (P := pg) (A := an) (vals := [.y (.one (.ptr 0 2))]) (H := [.obj [vb h0, vb h1, vb h2]]) (op := .load 4 (.tmp 0)) (ty := 0) (r := xb h2) (v := xb false) (by kernel_rfl) (congrArg (fun z => xb z) (c19))) trivial) (by kernel_rfl)) (by kernel_rfl) ?_
              refine Wp.condF (by kernel_rfl) ?_
              refine Wp.skip ?_
              refine Wp.region [] [(0, .y (.one (sv NI b nil capd l))), (1, xi hand), (5, .y (.one (.ptr 0 0))), (24, xi 2)] [.obj [vb h0, vb h1, vb h2]]
                (cast trivial (by kernel_rfl)) (by kernel_rfl) ?_
              refine ⟨[(0, .y (.one (sv NI b nil capd l))), (1, xi hand), (5, .y (.one (.ptr 0 0))), (24, xi 2)], [.obj [vb h0, vb h1, vb h2]], by kernel_rfl, ?_⟩
              refine WpL.step ?_
              refine Wp.regionSeq [] [(0, .y (.one (sv NI b nil capd l))), (1, xi hand), (5, .y (.one (.ptr 0 0))), (24, xi 2), (25, xb true)] [.obj [vb h0, vb h1, vb h2]]
                (cast trivial (by kernel_rfl)) (by kernel_rfl) ?_
              refine Wp.seq ?_
              refine Wp.condT (by kernel_rfl) ?_
              refine Wp.skip ?_
              refine Wp.seq ?_
              refine Wp.block ?_
              refine Wp.regionSeq [] [(0, .y (.one (sv NI b nil capd l))), (1, xi hand), (5, .y (.one (.ptr 0 0))), (9, xi 2), (24, xi 2)] [.obj [vb h0, vb h1, vb h2]]
                (cast trivial (by kernel_rfl)) (by kernel_rfl) ?_
              refine Wp.regionSeq [(2, .y (.one (.rd ([vi 1] ++ (l.drop ((hand : Int).toNat + 1)).flatMap (enc NI)))), [.obj [vb h0, vb h1, vb h2]])] [(0, .y (.one (sv NI b nil capd l))), (1, xi hand), (5, .y (.one (.ptr 0 0))), (10, xi 0), (24, xi 2)] [.obj [vb h0, vb h1, vb h2]]
                (cast (And.intro (ob_index (P := pg) (A := an) (H := [.obj [vb h0, vb h1, vb h2]]) (s := NI) (b := b) (nil := nil) (capd := capd) (t := 22) (el := 3) (i := hand) Try.underlying22 (by kernel_rfl) (by kernel_rfl) (by omega) hx5) trivial) (by kernel_rfl)) (by kernel_rfl) ?_
              rcases Bool.eq_false_or_eq_true (h0) with c22 | c22
              ·
                refine Wp.regionSeq [(2, xb true, [.obj [vb h0, vb h1, vb h2]])] [(0, .y (.one (sv NI b nil capd l))), (1, xi hand), (5, .y (.one (.ptr 0 0))), (10, xi 0), (24, xi 2), (36, xb true)] [.obj [vb h0, vb h1, vb h2]]
                  (cast (And.intro (ob_raw (P := pg) (A := an) (vals := [.y (.one (.ptr 0 0))]) (H := [.obj [vb h0, vb h1, vb h2]]) (op := .load 4 (.tmp 0)) (ty := 0) (r := xb h0) (v := xb true) (by kernel_rfl) (congrArg (fun z => xb z) (c22))) trivial) (by kernel_rfl)) (by kernel_rfl) ?_
                refine Wp.condT (by kernel_rfl) ?_
                have hmz23 := mod_is (a := (hand + 1)) (b := (l.length : Int)) (by omega) (by omega)
                refine Wp.regionSeq [(2, xi (hand + 1), [.obj [vb h0, vb h1, vb h2]]), (5, xi ((hand + 1) % (l.length : Int)), [.obj [vb h0, vb h1, vb h2]])] [(6, xi 0), (7, xi ((hand + 1) % (l.length : Int))), (8, xi 0)] [.obj [vb h0, vb h1, vb h2]]
                  (cast (And.intro (ob_raw (P := pg) (A := an) (vals := [xi hand, xi 1]) (H := [.obj [vb h0, vb h1, vb h2]]) (op := .binOp .add 3 (.tmp 0) (.tmp 1) 3) (ty := 0) (r := xi (IntKind.wrap .i64 (hand + 1))) (v := xi (hand + 1)) (by kernel_rfl) (congrArg (fun z => xi z) ((wrap64 (by omega)).trans (by omega)))) (And.intro (ob_rem (P := pg) (A := an) (H := [.obj [vb h0, vb h1, vb h2]]) (t := 3) (u := 3) (ty := 0) (a := (hand + 1)) (b := (l.length : Int)) (by omega) (by omega)) trivial)) (by kernel_rfl)) (by kernel_rfl) ?_
                refine Wp.ret ?_
                exact ⟨Or.inr rfl, [.one (vi 0), .one (vi ((hand + 1) % (l.length : Int))), .one (vi 0)], by kernel_rfl, (by have hp : nx l hand h0 h1 h2 = (0, ((hand + 1) % (l.length : Int)), 0) := by { unfold nx; rw [c1]; rw [if_neg (by decide), if_neg (by omega)]; rw [show at_ l hand = 1 from at_of hx5]; simp [hasW, c22, c16, c19] }; rw [hp]; rfl)⟩
              ·
                refine Wp.regionSeq [(2, xb false, [.obj [vb h0, vb h1, vb h2]])] [(0, .y (.one (sv NI b nil capd l))), (1, xi hand), (5, .y (.one (.ptr 0 0))), (10, xi 0), (24, xi 2), (36, xb false)] [.obj [vb h0, vb h1, vb h2]]
                  (cast (And.intro (ob_raw (P := pg) (A := an) (vals := [.y (.one (.ptr 0 0))]) (H := [.obj [vb h0, vb h1, vb h2]]) (op := .load 4 (.tmp 0)) (ty := 0) (r := xb h0) (v := xb false) (by kernel_rfl) (congrArg (fun z => xb z) (c22))) trivial) (by kernel_rfl)) (by kernel_rfl) ?_
                refine Wp.condF (by kernel_rfl) ?_
                refine Wp.skip ?_
                refine Wp.region [] [(0, .y (.one (sv NI b nil capd l))), (1, xi hand), (5, .y (.one (.ptr 0 0))), (24, xi 3)] [.obj [vb h0, vb h1, vb h2]]
                  (cast trivial (by kernel_rfl)) (by kernel_rfl) ?_
                refine ⟨[(0, .y (.one (sv NI b nil capd l))), (1, xi hand), (5, .y (.one (.ptr 0 0))), (24, xi 3)], [.obj [vb h0, vb h1, vb h2]], by kernel_rfl, ?_⟩
                refine WpL.step ?_
                refine Wp.regionSeq [] [(0, .y (.one (sv NI b nil capd l))), (1, xi hand), (5, .y (.one (.ptr 0 0))), (24, xi 3), (25, xb false)] [.obj [vb h0, vb h1, vb h2]]
                  (cast trivial (by kernel_rfl)) (by kernel_rfl) ?_
                refine Wp.seq ?_
                refine Wp.condF (by kernel_rfl) ?_
                refine Wp.exit ?_
                refine Eq.mpr (if_pos rfl) ?_
                refine Wp.regionSeq [] [(6, xi 0), (7, xi 0), (8, xi 3)] [.obj [vb h0, vb h1, vb h2]]
                  (cast trivial (by kernel_rfl)) (by kernel_rfl) ?_
                refine Wp.ret ?_
                exact ⟨Or.inr rfl, [.one (vi 0), .one (vi 0), .one (vi 3)], by kernel_rfl, (by have hp : nx l hand h0 h1 h2 = (0, 0, 3) := by { unfold nx; rw [c1]; rw [if_neg (by decide), if_neg (by omega)]; rw [show at_ l hand = 1 from at_of hx5]; simp [hasW, c22, c16, c19] }; rw [hp]; rfl)⟩
        ·
          rcases Bool.eq_false_or_eq_true (h2) with c25 | c25
          ·
            refine Wp.regionSeq [(2, xb true, [.obj [vb h0, vb h1, vb h2]])] [(0, .y (.one (sv NI b nil capd l))), (1, xi hand), (5, .y (.one (.ptr 0 0))), (10, xi 2), (24, xi 0), (36, xb true)] [.obj [vb h0, vb h1, vb h2]]
              (cast (And.intro (ob_raw (P := pg) (A := an) (vals := [.y (.one (.ptr 0 2))]) (H := [.obj [vb h0, vb h1, vb h2]]) (op := .load 4 (.tmp 0)) (ty := 0) (r := xb h2) (v := xb true) (by kernel_rfl) (congrArg (fun z => xb z) (c25))) trivial) (by kernel_rfl)) (by kernel_rfl) ?_
            refine Wp.condT (by kernel_rfl) ?_
            have hmz26 := mod_is (a := (hand + 1)) (b := (l.length : Int)) (by omega) (by omega)
            refine Wp.regionSeq [(2, xi (hand + 1), [.obj [vb h0, vb h1, vb h2]]), (5, xi ((hand + 1) % (l.length : Int)), [.obj [vb h0, vb h1, vb h2]])] [(6, xi 2), (7, xi ((hand + 1) % (l.length : Int))), (8, xi 0)] [.obj [vb h0, vb h1, vb h2]]
              (cast (And.intro (ob_raw (P := pg) (A := an) (vals := [xi hand, xi 1]) (H := [.obj [vb h0, vb h1, vb h2]]) (op := .binOp .add 3 (.tmp 0) (.tmp 1) 3) (ty := 0) (r := xi (IntKind.wrap .i64 (hand + 1))) (v := xi (hand + 1)) (by kernel_rfl) (congrArg (fun z => xi z) ((wrap64 (by omega)).trans (by omega)))) (And.intro (ob_rem (P := pg) (A := an) (H := [.obj [vb h0, vb h1, vb h2]]) (t := 3) (u := 3) (ty := 0) (a := (hand + 1)) (b := (l.length : Int)) (by omega) (by omega)) trivial)) (by kernel_rfl)) (by kernel_rfl) ?_
            refine Wp.ret ?_
            exact ⟨Or.inr rfl, [.one (vi 2), .one (vi ((hand + 1) % (l.length : Int))), .one (vi 0)], by kernel_rfl, (by have hp : nx l hand h0 h1 h2 = (2, ((hand + 1) % (l.length : Int)), 0) := by { unfold nx; rw [c1]; rw [if_neg (by decide), if_neg (by omega)]; rw [show at_ l hand = 2 from at_of hx5]; simp [hasW, c25] }; rw [hp]; rfl)⟩
          ·
            refine Wp.regionSeq [(2, xb false, [.obj [vb h0, vb h1, vb h2]])] [(0, .y (.one (sv NI b nil capd l))), (1, xi hand), (5, .y (.one (.ptr 0 0))), (10, xi 2), (24, xi 0), (36, xb false)] [.obj [vb h0, vb h1, vb h2]]
              (cast (And.intro (ob_raw (P := pg) (A := an) (vals := [.y (.one (.ptr 0 2))]) (H := [.obj [vb h0, vb h1, vb h2]]) (op := .load 4 (.tmp 0)) (ty := 0) (r := xb h2) (v := xb false) (by kernel_rfl) (congrArg (fun z => xb z) (c25))) trivial) (by kernel_rfl)) (by kernel_rfl) ?_
            refine Wp.condF (by kernel_rfl) ?_
            refine Wp.skip ?_
            refine Wp.region [] [(0, .y (.one (sv NI b nil capd l))), (1, xi hand), (5, .y (.one (.ptr 0 0))), (24, xi 1)] [.obj [vb h0, vb h1, vb h2]]
              (cast trivial (by kernel_rfl)) (by kernel_rfl) ?_
            refine ⟨[(0, .y (.one (sv NI b nil capd l))), (1, xi hand), (5, .y (.one (.ptr 0 0))), (24, xi 1)], [.obj [vb h0, vb h1, vb h2]], by kernel_rfl, ?_⟩
            refine WpL.step ?_
            refine Wp.regionSeq [] [(0, .y (.one (sv NI b nil capd l))), (1, xi hand), (5, .y (.one (.ptr 0 0))), (24, xi 1), (25, xb true)] [.obj [vb h0, vb h1, vb h2]]
              (cast trivial (by kernel_rfl)) (by kernel_rfl) ?_
            refine Wp.seq ?_
            refine Wp.condT (by kernel_rfl) ?_
            refine Wp.skip ?_
            refine Wp.seq ?_
            refine Wp.block ?_
            refine Wp.regionSeq [] [(0, .y (.one (sv NI b nil capd l))), (1, xi hand), (5, .y (.one (.ptr 0 0))), (9, xi 1), (24, xi 1)] [.obj [vb h0, vb h1, vb h2]]
              (cast trivial (by kernel_rfl)) (by kernel_rfl) ?_
            refine Wp.regionSeq [(2, .y (.one (.rd ([vi 2] ++ (l.drop ((hand : Int).toNat + 1)).flatMap (enc NI)))), [.obj [vb h0, vb h1, vb h2]])] [(0, .y (.one (sv NI b nil capd l))), (1, xi hand), (5, .y (.one (.ptr 0 0))), (10, xi 0), (24, xi 1)] [.obj [vb h0, vb h1, vb h2]]
              (cast (And.intro (ob_index (P := pg) (A := an) (H := [.obj [vb h0, vb h1, vb h2]]) (s := NI) (b := b) (nil := nil) (capd := capd) (t := 22) (el := 3) (i := hand) Try.underlying22 (by kernel_rfl) (by kernel_rfl) (by omega) hx5) trivial) (by kernel_rfl)) (by kernel_rfl) ?_
            rcases Bool.eq_false_or_eq_true (h0) with c28 | c28
            ·
              refine Wp.regionSeq [(2, xb true, [.obj [vb h0, vb h1, vb h2]])] [(0, .y (.one (sv NI b nil capd l))), (1, xi hand), (5, .y (.one (.ptr 0 0))), (10, xi 0), (24, xi 1), (36, xb true)] [.obj [vb h0, vb h1, vb h2]]
                (cast (And.intro (ob_raw (P := pg) (A := an) (vals := [.y (.one (.ptr 0 0))]) (H := [.obj [vb h0, vb h1, vb h2]]) (op := .load 4 (.tmp 0)) (ty := 0) (r := xb h0) (v := xb true) (by kernel_rfl) (congrArg (fun z => xb z) (c28))) trivial) (by kernel_rfl)) (by kernel_rfl) ?_
              refine Wp.condT (by kernel_rfl) ?_
              have hmz29 := mod_is (a := (hand + 1)) (b := (l.length : Int)) (by omega) (by omega)
              refine Wp.regionSeq [(2, xi (hand + 1), [.obj [vb h0, vb h1, vb h2]]), (5, xi ((hand + 1) % (l.length : Int)), [.obj [vb h0, vb h1, vb h2]])] [(6, xi 0), (7, xi ((hand + 1) % (l.length : Int))), (8, xi 0)] [.obj [vb h0, vb h1, vb h2]]
                (cast (And.intro (ob_raw (P := pg) (A := an) (vals := [xi hand, xi 1]) (H := [.obj [vb h0, vb h1, vb h2]]) (op := .binOp .add 3 (.tmp 0) (.tmp 1) 3) (ty := 0) (r := xi (IntKind.wrap .i64 (hand + 1))) (v := xi (hand + 1)) (by kernel_rfl) (congrArg (fun z => xi z) ((wrap64 (by omega)).trans (by omega)))) (And.intro (ob_rem (P := pg) (A := an) (H := [.obj [vb h0, vb h1, vb h2]]) (t := 3) (u := 3) (ty := 0) (a := (hand + 1)) (b := (l.length : Int)) (by omega) (by omega)) trivial)) (by kernel_rfl)) (by kernel_rfl) ?_
              refine Wp.ret ?_
              exact ⟨Or.inr rfl, [.one (vi 0), .one (vi ((hand + 1) % (l.length : Int))), .one (vi 0)], by kernel_rfl, (by have hp : nx l hand h0 h1 h2 = (0, ((hand + 1) % (l.length : Int)), 0) := by { unfold nx; rw [c1]; rw [if_neg (by decide), if_neg (by omega)]; rw [show at_ l hand = 2 from at_of hx5]; simp [hasW, c28, c25] }; rw [hp]; rfl)⟩
            ·
              refine Wp.regionSeq [(2, xb false, [.obj [vb h0, vb h1, vb h2]])] [(0, .y (.one (sv NI b nil capd l))), (1, xi hand), (5, .y (.one (.ptr 0 0))), (10, xi 0), (24, xi 1), (36, xb false)] [.obj [vb h0, vb h1, vb h2]]
                (cast (And.intro (ob_raw (P := pg) (A := an) (vals := [.y (.one (.ptr 0 0))]) (H := [.obj [vb h0, vb h1, vb h2]]) (op := .load 4 (.tmp 0)) (ty := 0) (r := xb h0) (v := xb false) (by kernel_rfl) (congrArg (fun z => xb z) (c28))) trivial) (by kernel_rfl)) (by kernel_rfl) ?_
              refine Wp.condF (by kernel_rfl) ?_
              refine Wp.skip ?_
              refine Wp.region [] [(0, .y (.one (sv NI b nil capd l))), (1, xi hand), (5, .y (.one (.ptr 0 0))), (24, xi 2)] [.obj [vb h0, vb h1, vb h2]]
                (cast trivial (by kernel_rfl)) (by kernel_rfl) ?_
              refine ⟨[(0, .y (.one (sv NI b nil capd l))), (1, xi hand), (5, .y (.one (.ptr 0 0))), (24, xi 2)], [.obj [vb h0, vb h1, vb h2]], by kernel_rfl, ?_⟩
              refine WpL.step ?_
              refine Wp.regionSeq [] [(0, .y (.one (sv NI b nil capd l))), (1, xi hand), (5, .y (.one (.ptr 0 0))), (24, xi 2), (25, xb true)] [.obj [vb h0, vb h1, vb h2]]
                (cast trivial (by kernel_rfl)) (by kernel_rfl) ?_
              refine Wp.seq ?_
              refine Wp.condT (by kernel_rfl) ?_
              refine Wp.skip ?_
              refine Wp.seq ?_
              refine Wp.block ?_
              refine Wp.regionSeq [] [(0, .y (.one (sv NI b nil capd l))), (1, xi hand), (5, .y (.one (.ptr 0 0))), (9, xi 2), (24, xi 2)] [.obj [vb h0, vb h1, vb h2]]
                (cast trivial (by kernel_rfl)) (by kernel_rfl) ?_
              refine Wp.regionSeq [(2, .y (.one (.rd ([vi 2] ++ (l.drop ((hand : Int).toNat + 1)).flatMap (enc NI)))), [.obj [vb h0, vb h1, vb h2]])] [(0, .y (.one (sv NI b nil capd l))), (1, xi hand), (5, .y (.one (.ptr 0 0))), (10, xi 1), (24, xi 2)] [.obj [vb h0, vb h1, vb h2]]
                (cast (And.intro (ob_index (P := pg) (A := an) (H := [.obj [vb h0, vb h1, vb h2]]) (s := NI) (b := b) (nil := nil) (capd := capd) (t := 22) (el := 3) (i := hand) Try.underlying22 (by kernel_rfl) (by kernel_rfl) (by omega) hx5) trivial) (by kernel_rfl)) (by kernel_rfl) ?_
              rcases Bool.eq_false_or_eq_true (h1) with c31 | c31
              ·
                refine Wp.regionSeq [(2, xb true, [.obj [vb h0, vb h1, vb h2]])] [(0, .y (.one (sv NI b nil capd l))), (1, xi hand), (5, .y (.one (.ptr 0 0))), (10, xi 1), (24, xi 2), (36, xb true)] [.obj [vb h0, vb h1, vb h2]]
                  (cast (And.intro (ob_raw (P := pg) (A := an) (vals := [.y (.one (.ptr 0 1))]) (H := [.obj [vb h0, vb h1, vb h2]]) (op := .load 4 (.tmp 0)) (ty := 0) (r := xb h1) (v := xb true) (by kernel_rfl) (congrArg (fun z => xb z) (c31))) trivial) (by kernel_rfl)) (by kernel_rfl) ?_
                refine Wp.condT (by kernel_rfl) ?_
                have hmz32 := mod_is (a := (hand + 1)) (b := (l.length : Int)) (by omega) (by omega)
                refine Wp.regionSeq [(2, xi (hand + 1), [.obj [vb h0, vb h1, vb h2]]), (5, xi ((hand + 1) % (l.length : Int)), [.obj [vb h0, vb h1, vb h2]])] [(6, xi 1), (7, xi ((hand + 1) % (l.length : Int))), (8, xi 0)] [.obj [vb h0, vb h1, vb h2]]
                  (cast (And.intro (ob_raw (P := pg) (A := an) (vals := [xi hand, xi 1]) (H := [.obj [vb h0, vb h1, vb h2]]) (op := .binOp .add 3 (.tmp 0) (.tmp 1) 3) (ty := 0) (r := xi (IntKind.wrap .i64 (hand + 1))) (v := xi (hand + 1)) (by kernel_rfl) (congrArg (fun z => xi z) ((wrap64 (by omega)).trans (by omega)))) (And.intro (ob_rem (P := pg) (A := an) (H := [.obj [vb h0, vb h1, vb h2]]) (t := 3) (u := 3) (ty := 0) (a := (hand + 1)) (b := (l.length : Int)) (by omega) (by omega)) trivial)) (by kernel_rfl)) (by kernel_rfl) ?_
                refine Wp.ret ?_
                exact ⟨Or.inr rfl, [.one (vi 1), .one (vi ((hand + 1) % (l.length : Int))), .one (vi 0)], by kernel_rfl, (by have hp : nx l hand h0 h1 h2 = (1, ((hand + 1) % (l.length : Int)), 0) := by { unfold nx; rw [c1]; rw [if_neg (by decide), if_neg (by omega)]; rw [show at_ l hand = 2 from at_of hx5]; simp [hasW, c28, c31, c25] }; rw [hp]; rfl)⟩
              ·
                refine Wp.regionSeq [(2, xb false, [.obj [vb h0, vb h1, vb h2]])] [(0, .y (.one (sv NI b nil capd l))), (1, xi hand), (5, .y (.one (.ptr 0 0))), (10, xi 1), (24, xi 2), (36, xb false)] [.obj [vb h0, vb h1, vb h2]]
                  (cast (And.intro (ob_raw (P := pg) (A := an) (vals := [.y (.one (.ptr 0 1))]) (H := [.obj [vb h0, vb h1, vb h2]]) (op := .load 4 (.tmp 0)) (ty := 0) (r := xb h1) (v := xb false) (by kernel_rfl) (congrArg (fun z => xb z) (c31))) trivial) (by kernel_rfl)) (by kernel_rfl) ?_
                refine Wp.condF (by kernel_rfl) ?_
                refine Wp.skip ?_
                refine Wp.region [] [(0, .y (.one (sv NI b nil capd l))), (1, xi hand), (5, .y (.one (.ptr 0 0))), (24, xi 3)] [.obj [vb h0, vb h1, vb h2]]
                  (cast trivial (by kernel_rfl)) (by kernel_rfl) ?_
                refine ⟨[(0, .y (.one (sv NI b nil capd l))), (1, xi hand), (5, .y (.one (.ptr 0 0))), (24, xi 3)], [.obj [vb h0, vb h1, vb h2]], by kernel_rfl, ?_⟩
                refine WpL.step ?_
                refine Wp.regionSeq [] [(0, .y (.one (sv NI b nil capd l))), (1, xi hand), (5, .y (.one (.ptr 0 0))), (24, xi 3), (25, xb false)] [.obj [vb h0, vb h1, vb h2]]
                  (cast trivial (by kernel_rfl)) (by kernel_rfl) ?_
                refine Wp.seq ?_
                refine Wp.condF (by kernel_rfl) ?_
                refine Wp.exit ?_
                refine Eq.mpr (if_pos rfl) ?_
                refine Wp.regionSeq [] [(6, xi 0), (7, xi 0), (8, xi 3)] [.obj [vb h0, vb h1, vb h2]]
                  (cast trivial (by kernel_rfl)) (by kernel_rfl) ?_
                refine Wp.ret ?_
                exact ⟨Or.inr rfl, [.one (vi 0), .one (vi 0), .one (vi 3)], by kernel_rfl, (by have hp : nx l hand h0 h1 h2 = (0, 0, 3) := by { unfold nx; rw [c1]; rw [if_neg (by decide), if_neg (by omega)]; rw [show at_ l hand = 2 from at_of hx5]; simp [hasW, c28, c31, c25] }; rw [hp]; rfl)⟩
  ·
    refine Wp.regionSeq [(1, xi 20, [.obj [vb h0, vb h1, vb h2]])] [(0, .y (.one (sv NI b nil capd l))), (1, xi hand), (5, .y (.one (.ptr 0 0))), (11, xb true)] [.obj [vb h0, vb h1, vb h2]]
      (cast (And.intro (ob_pure (P := pg) (A := an) (H := [.obj [vb h0, vb h1, vb h2]]) (g := 13) (vals := [.y (.one (sv NI b nil capd l))]) (xs0 := [.one (sv NI b nil capd l)]) (xs1 := [.one (sv NI b nil capd l)]) (res := [.one (vi 20)]) (ats := #[]) (ty := 0) (v := xi 20) [.tmp 0] (by kernel_rfl) (by kernel_rfl) (by kernel_rfl) (by have := fn13 b nil capd l (by omega); rw [c1] at this; exact this) (by kernel_rfl)) trivial) (by kernel_rfl)) (by kernel_rfl) ?_
    refine Wp.condT (by kernel_rfl) ?_
    refine Wp.regionSeq [] [(6, xi 0), (7, xi 0), (8, xi 20)] [.obj [vb h0, vb h1, vb h2]]
      (cast trivial (by kernel_rfl)) (by kernel_rfl) ?_
    refine Wp.ret ?_
    exact ⟨Or.inr rfl, [.one (vi 0), .one (vi 0), .one (vi 20)], by kernel_rfl, (by have hp : nx l hand h0 h1 h2 = (0, 0, 20) := by { unfold nx; rw [c1]; rfl }; rw [hp]; rfl)⟩
theorem fn12 (b nil capd : Bool) (l : List Int) (hl : (l.length : Int) ≤ 4611686018427387904) (hand : Int) (h0 h1 h2 : Bool) : PureC pg an 12 [.one (sv NI b nil capd l), .one (vi hand), .agg [vb h0, vb h1, vb h2]] [.one (vi (nx l hand h0 h1 h2).1), .one (vi (nx l hand h0 h1 h2).2.1), .one (vi (nx l hand h0 h1 h2).2.2)] := by
  refine Runs.of (fn := Try.f12) Try.func12 rfl (by kernel_rfl) [(0, .y (.one (sv NI b nil capd l))), (1, xi hand), (2, .y (.agg [vb h0, vb h1, vb h2]))] (by kernel_rfl) ?_
  refine Wp.regionSeq [] [(0, .y (.one (sv NI b nil capd l))), (1, xi hand), (5, .y (.one (.ptr 0 0)))] [.obj [vb h0, vb h1, vb h2]]
    (cast trivial (by kernel_rfl)) (by kernel_rfl) ?_
  refine Wp.seq ?_
  rcases Bool.eq_false_or_eq_true ((okW l)) with c1 | c1
  ·
    have hkz2 := okW_len c1
    refine Wp.regionSeq [(1, xi 0, [.obj [vb h0, vb h1, vb h2]])] [(0, .y (.one (sv NI b nil capd l))), (1, xi hand), (5, .y (.one (.ptr 0 0))), (13, xb false)] [.obj [vb h0, vb h1, vb h2]]
      (cast (And.intro (ob_pure (P := pg) (A := an) (H := [.obj [vb h0, vb h1, vb h2]]) (g := 14) (vals := [.y (.one (sv NI b nil capd l))]) (xs0 := [.one (sv NI b nil capd l)]) (xs1 := [.one (sv NI b nil capd l)]) (res := [.one (vi 0)]) (ats := #[]) (ty := 0) (v := xi 0) [.tmp 0] (by kernel_rfl) (by kernel_rfl) (by kernel_rfl) (by have := fn14 b nil capd l (by omega); rw [c1] at this; exact this) (by kernel_rfl)) trivial) (by kernel_rfl)) (by kernel_rfl) ?_
    refine Wp.condF (by kernel_rfl) ?_
    refine Wp.skip ?_
    refine Wp.seq ?_
    by_cases c3 : (hand : Int) < 0
    ·
      refine Wp.regionSeq [(1, xb true, [.obj [vb h0, vb h1, vb h2]])] [(0, .y (.one (sv NI b nil capd l))), (1, xi hand), (5, .y (.one (.ptr 0 0))), (21, xb true)] [.obj [vb h0, vb h1, vb h2]]
        (cast (And.intro (ob_raw (P := pg) (A := an) (vals := [xi hand, xi 0]) (H := [.obj [vb h0, vb h1, vb h2]]) (op := .binOp .lss 3 (.tmp 0) (.tmp 1) 3) (ty := 0) (r := xb (decide ((hand : Int) < 0))) (v := xb true) (by kernel_rfl) (congrArg (fun z => xb z) (decide_eq_true (by omega)))) trivial) (by kernel_rfl)) (by kernel_rfl) ?_
      refine Wp.condT (by kernel_rfl) ?_
      refine Wp.regionSeq [] [(6, xi 0), (7, xi 0), (8, xi 1)] [.obj [vb h0, vb h1, vb h2]]
        (cast trivial (by kernel_rfl)) (by kernel_rfl) ?_
      refine Wp.ret ?_
      exact ⟨Or.inr rfl, [.one (vi 0), .one (vi 0), .one (vi 1)], by kernel_rfl, (by have hp : nx l hand h0 h1 h2 = (0, 0, 1) := by { unfold nx; rw [c1]; rw [if_neg (by decide), if_pos (by omega)] }; rw [hp]; rfl)⟩
    ·
      by_cases c4 : ((l.length : Int) : Int) ≤ hand
      ·
        refine Wp.regionSeq [(1, xb false, [.obj [vb h0, vb h1, vb h2]]), (6, xb true, [.obj [vb h0, vb h1, vb h2]])] [(0, .y (.one (sv NI b nil capd l))), (1, xi hand), (5, .y (.one (.ptr 0 0))), (21, xb true)] [.obj [vb h0, vb h1, vb h2]]
          (cast (And.intro (ob_raw (P := pg) (A := an) (vals := [xi hand, xi 0]) (H := [.obj [vb h0, vb h1, vb h2]]) (op := .binOp .lss 3 (.tmp 0) (.tmp 1) 3) (ty := 0) (r := xb (decide ((hand : Int) < 0))) (v := xb false) (by kernel_rfl) (congrArg (fun z => xb z) (decide_eq_false (by omega)))) (And.intro (ob_raw (P := pg) (A := an) (vals := [xi hand, xi (l.length : Int)]) (H := [.obj [vb h0, vb h1, vb h2]]) (op := .binOp .geq 3 (.tmp 0) (.tmp 1) 3) (ty := 0) (r := xb (decide ((hand : Int) ≥ (l.length : Int)))) (v := xb true) (by kernel_rfl) (congrArg (fun z => xb z) (decide_eq_true (by omega)))) trivial)) (by kernel_rfl)) (by kernel_rfl) ?_
        refine Wp.condT (by kernel_rfl) ?_
        refine Wp.regionSeq [] [(6, xi 0), (7, xi 0), (8, xi 1)] [.obj [vb h0, vb h1, vb h2]]
          (cast trivial (by kernel_rfl)) (by kernel_rfl) ?_
        refine Wp.ret ?_
        exact ⟨Or.inr rfl, [.one (vi 0), .one (vi 0), .one (vi 1)], by kernel_rfl, (by have hp : nx l hand h0 h1 h2 = (0, 0, 1) := by { unfold nx; rw [c1]; rw [if_neg (by decide), if_pos (by omega)] }; rw [hp]; rfl)⟩
      ·
        refine Wp.regionSeq [(1, xb false, [.obj [vb h0, vb h1, vb h2]]), (6, xb false, [.obj [vb h0, vb h1, vb h2]])] [(0, .y (.one (sv NI b nil capd l))), (1, xi hand), (5, .y (.one (.ptr 0 0))), (21, xb false)] [.obj [vb h0, vb h1, vb h2]]
          (cast (And.intro (ob_raw (P := pg) (A := an) (vals := [xi hand, xi 0]) (H := [.obj [vb h0, vb h1, vb h2]]) (op := .binOp .lss 3 (.tmp 0) (.tmp 1) 3) (ty := 0) (r := xb (decide ((hand : Int) < 0))) (v := xb false) (by kernel_rfl) (congrArg (fun z => xb z) (decide_eq_false (by omega)))) (And.intro (ob_raw (P := pg) (A := an) (vals := [xi hand, xi (l.length : Int)]) (H := [.obj [vb h0, vb h1, vb h2]]) (op := .binOp .geq 3 (.tmp 0) (.tmp 1) 3) (ty := 0) (r := xb (decide ((hand : Int) ≥ (l.length : Int)))) (v := xb false) (by kernel_rfl) (congrArg (fun z => xb z) (decide_eq_false (by omega)))) trivial)) (by kernel_rfl)) (by kernel_rfl) ?_
        refine Wp.condF (by kernel_rfl) ?_
        refine Wp.skip ?_
        refine Wp.seq ?_
        refine Wp.regionSeq [] [(0, .y (.one (sv NI b nil capd l))), (1, xi hand), (5, .y (.one (.ptr 0 0))), (9, xi 0)] [.obj [vb h0, vb h1, vb h2]]
          (cast trivial (by kernel_rfl)) (by kernel_rfl) ?_
        refine Wp.block ?_
        refine Wp.loopU [(0, .y (.one (sv NI b nil capd l))), (1, xi hand), (5, .y (.one (.ptr 0 0))), (9, xi 0)] (some ([0, 1, 5, 9], true)) 1 (by kernel_rfl) ?_
        refine WpL.step ?_
        refine Wp.seq ?_
        refine Wp.regionSeq [] [(0, .y (.one (sv NI b nil capd l))), (1, xi hand), (5, .y (.one (.ptr 0 0))), (9, xi 0), (23, xb true)] [.obj [vb h0, vb h1, vb h2]]
          (cast trivial (by kernel_rfl)) (by kernel_rfl) ?_
        refine Wp.condT (by kernel_rfl) ?_
        refine Wp.skip ?_
        refine Wp.seq ?_
        refine Wp.block ?_
        obtain ⟨x5, hx5⟩ : ∃ x, l[(hand : Int).toNat]? = some x := get_of (by omega)
        have hez6 := okW_elem c1 hx5
        refine Wp.regionSeq [(2, .y (.one (.rd ([vi x5] ++ (l.drop ((hand : Int).toNat + 1)).flatMap (enc NI)))), [.obj [vb h0, vb h1, vb h2]]), (5, xi x5, [.obj [vb h0, vb h1, vb h2]]), (6, xi (x5 % 3), [.obj [vb h0, vb h1, vb h2]])] [(0, .y (.one (sv NI b nil capd l))), (1, xi hand), (5, .y (.one (.ptr 0 0))), (9, xi 0), (10, xi (x5 % 3))] [.obj [vb h0, vb h1, vb h2]]
          (cast (And.intro (ob_index (P := pg) (A := an) (H := [.obj [vb h0, vb h1, vb h2]]) (s := NI) (b := b) (nil := nil) (capd := capd) (t := 22) (el := 3) (i := hand) Try.underlying22 (by kernel_rfl) (by kernel_rfl) (by omega) hx5) (And.intro (ob_raw (P := pg) (A := an) (vals := [xi x5, xi 0]) (H := [.obj [vb h0, vb h1, vb h2]]) (op := .binOp .add 3 (.tmp 0) (.tmp 1) 3) (ty := 0) (r := xi (IntKind.wrap .i64 (x5 + 0))) (v := xi x5) (by kernel_rfl) (congrArg (fun z => xi z) ((wrap64 (by omega)).trans (by omega)))) (And.intro (ob_raw (P := pg) (A := an) (vals := [xi x5, xi 3]) (H := [.obj [vb h0, vb h1, vb h2]]) (op := .binOp .rem 3 (.tmp 0) (.tmp 1) 3) (ty := 0) (r := xi (Int.tmod x5 3)) (v := xi (x5 % 3)) (by kernel_rfl) (congrArg (fun z => xi z) (Int.tmod_eq_emod_of_nonneg (by omega)))) trivial))) (by kernel_rfl)) (by kernel_rfl) ?_
        rcases (show x5 = 0 ∨ x5 = 1 ∨ x5 = 2 from by omega) with rfl | rfl | rfl
        ·
          rcases Bool.eq_false_or_eq_true (h0) with c7 | c7
          ·
            refine Wp.regionSeq [(2, xb true, [.obj [vb h0, vb h1, vb h2]])] [(0, .y (.one (sv NI b nil capd l))), (1, xi hand), (5, .y (.one (.ptr 0 0))), (9, xi 0), (10, xi 0), (35, xb true)] [.obj [vb h0, vb h1, vb h2]]
              (cast (And.intro (ob_raw (P := pg) (A := an) (vals := [.y (.one (.ptr 0 0))]) (H := [.obj [vb h0, vb h1, vb h2]]) (op := .load 4 (.tmp 0)) (ty := 0) (r := xb h0) (v := xb true) (by kernel_rfl) (congrArg (fun z => xb z) (c7))) trivial) (by kernel_rfl)) (by kernel_rfl) ?_
            refine Wp.condT (by kernel_rfl) ?_
            have hmz8 := mod_is (a := (hand + 1)) (b := (l.length : Int)) (by omega) (by omega)
            refine Wp.regionSeq [(2, xi (hand + 1), [.obj [vb h0, vb h1, vb h2]]), (5, xi ((hand + 1) % (l.length : Int)), [.obj [vb h0, vb h1, vb h2]])] [(6, xi 0), (7, xi ((hand + 1) % (l.length : Int))), (8, xi 0)] [.obj [vb h0, vb h1, vb h2]]
              (cast (And.intro (ob_raw (P := pg) (A := an) (vals := [xi hand, xi 1]) (H := [.obj [vb h0, vb h1, vb h2]]) (op := .binOp .add 3 (.tmp 0) (.tmp 1) 3) (ty := 0) (r := xi (IntKind.wrap .i64 (hand + 1))) (v := xi (hand + 1)) (by kernel_rfl) (congrArg (fun z => xi z) ((wrap64 (by omega)).trans (by omega)))) (And.intro (ob_rem (P := pg) (A := an) (H := [.obj [vb h0, vb h1, vb h2]]) (t := 3) (u := 3) (ty := 0) (a := (hand + 1)) (b := (l.length : Int)) (by omega) (by omega)) trivial)) (by kernel_rfl)) (by kernel_rfl) ?_
            refine Wp.ret ?_
            exact ⟨Or.inr rfl, [.one (vi 0), .one (vi ((hand + 1) % (l.length : Int))), .one (vi 0)], by kernel_rfl, (by have hp : nx l hand h0 h1 h2 = (0, ((hand + 1) % (l.length : Int)), 0) := by { unfold nx; rw [c1]; rw [if_neg (by decide), if_neg (by omega)]; rw [show at_ l hand = 0 from at_of hx5]; simp [hasW, c7] }; rw [hp]; rfl)⟩
          ·
            refine Wp.regionSeq [(2, xb false, [.obj [vb h0, vb h1, vb h2]])] [(0, .y (.one (sv NI b nil capd l))), (1, xi hand), (5, .y (.one (.ptr 0 0))), (9, xi 0), (10, xi 0), (35, xb false)] [.obj [vb h0, vb h1, vb h2]]
              (cast (And.intro (ob_raw (P := pg) (A := an) (vals := [.y (.one (.ptr 0 0))]) (H := [.obj [vb h0, vb h1, vb h2]]) (op := .load 4 (.tmp 0)) (ty := 0) (r := xb h0) (v := xb false) (by kernel_rfl) (congrArg (fun z => xb z) (c7))) trivial) (by kernel_rfl)) (by kernel_rfl) ?_
            refine Wp.condF (by kernel_rfl) ?_
            refine Wp.skip ?_
            refine Wp.region [] [(0, .y (.one (sv NI b nil capd l))), (1, xi hand), (5, .y (.one (.ptr 0 0))), (9, xi 1)] [.obj [vb h0, vb h1, vb h2]]
              (cast trivial (by kernel_rfl)) (by kernel_rfl) ?_
            refine ⟨[(0, .y (.one (sv NI b nil capd l))), (1, xi hand), (5, .y (.one (.ptr 0 0))), (9, xi 1)], [.obj [vb h0, vb h1, vb h2]], by kernel_rfl, ?_⟩
            refine WpL.step ?_
            refine Wp.seq ?_
            refine Wp.regionSeq [] [(0, .y (.one (sv NI b nil capd l))), (1, xi hand), (5, .y (.one (.ptr 0 0))), (9, xi 1), (23, xb true)] [.obj [vb h0, vb h1, vb h2]]
              (cast trivial (by kernel_rfl)) (by kernel_rfl) ?_
            refine Wp.condT (by kernel_rfl) ?_
            refine Wp.skip ?_
            refine Wp.seq ?_
            refine Wp.block ?_
            refine Wp.regionSeq [(2, .y (.one (.rd ([vi 0] ++ (l.drop ((hand : Int).toNat + 1)).flatMap (enc NI)))), [.obj [vb h0, vb h1, vb h2]])] [(0, .y (.one (sv NI b nil capd l))), (1, xi hand), (5, .y (.one (.ptr 0 0))), (9, xi 1), (10, xi 1)] [.obj [vb h0, vb h1, vb h2]]
              (cast (And.intro (ob_index (P := pg) (A := an) (H := [.obj [vb h0, vb h1, vb h2]]) (s := NI) (b := b) (nil := nil) (capd := capd) (t := 22) (el := 3) (i := hand) Try.underlying22 (by kernel_rfl) (by kernel_rfl) (by omega) hx5) trivial) (by kernel_rfl)) (by kernel_rfl) ?_
            rcases Bool.eq_false_or_eq_true (h1) with c10 | c10
            ·
              refine Wp.regionSeq [(2, xb true, [.obj [vb h0, vb h1, vb h2]])] [(0, .y (.one (sv NI b nil capd l))), (1, xi hand), (5, .y (.one (.ptr 0 0))), (9, xi 1), (10, xi 1), (35, xb true)] [.obj [vb h0, vb h1, vb h2]]
                (cast (And.intro (ob_raw (P := pg) (A := an) (vals := [.y (.one (.ptr 0 1))]) (H := [.obj [vb h0, vb h1, vb h2]]) (op := .load 4 (.tmp 0)) (ty := 0) (r := xb h1) (v := xb true) (by kernel_rfl) (congrArg (fun z => xb z) (c10))) trivial) (by kernel_rfl)) (by kernel_rfl) ?_
              refine Wp.condT (by kernel_rfl) ?_
              have hmz11 := mod_is (a := (hand + 1)) (b := (l.length : Int)) (by omega) (by omega)
              refine Wp.regionSeq [(2, xi (hand + 1), [.obj [vb h0, vb h1, vb h2]]), (5, xi ((hand + 1) % (l.length : Int)), [.obj [vb h0, vb h1, vb h2]])] [(6, xi 1), (7, xi ((hand + 1) % (l.length : Int))), (8, xi 0)] [.obj [vb h0, vb h1, vb h2]]
                (cast (And.intro (ob_raw (P := pg) (A := an) (vals := [xi hand, xi 1]) (H := [.obj [vb h0, vb h1, vb h2]]) (op := .binOp .add 3 (.tmp 0) (.tmp 1) 3) (ty := 0) (r := xi (IntKind.wrap .i64 (hand + 1))) (v := xi (hand + 1)) (by kernel_rfl) (congrArg (fun z => xi z) ((wrap64 (by omega)).trans (by omega)))) (And.intro (ob_rem (P := pg) (A := an) (H := [.obj [vb h0, vb h1, vb h2]]) (t := 3) (u := 3) (ty := 0) (a := (hand + 1)) (b := (l.length : Int)) (by omega) (by omega)) trivial)) (by kernel_rfl)) (by kernel_rfl) ?_
              refine Wp.ret ?_
              exact ⟨Or.inr rfl, [.one (vi 1), .one (vi ((hand + 1) % (l.length : Int))), .one (vi 0)], by kernel_rfl, (by have hp : nx l hand h0 h1 h2 = (1, ((hand + 1) % (l.length : Int)), 0) := by { unfold nx; rw [c1]; rw [if_neg (by decide), if_neg (by omega)]; rw [show at_ l hand = 0 from at_of hx5]; simp [hasW, c7, c10] }; rw [hp]; rfl)⟩
            ·
              refine Wp.regionSeq [(2, xb false, [.obj [vb h0, vb h1, vb h2]])] [(0, .y (.one (sv NI b nil capd l))), (1, xi hand), (5, .y (.one (.ptr 0 0))), (9, xi 1), (10, xi 1), (35, xb false)] [.obj [vb h0, vb h1, vb h2]]
                (cast (And.intro (ob_raw (P := pg) (A := an) (vals := [.y (.one (.ptr 0 1))]) (H := [.obj [vb h0, vb h1, vb h2]]) (op := .load 4 (.tmp 0)) (ty := 0) (r := xb h1) (v := xb false) (by kernel_rfl) (congrArg (fun z => xb z) (c10))) trivial) (by kernel_rfl)) (by kernel_rfl) ?_
              refine Wp.condF (by kernel_rfl) ?_
              refine Wp.skip ?_
              refine Wp.region [] [(0, .y (.one (sv NI b nil capd l))), (1, xi hand), (5, .y (.one (.ptr 0 0))), (9, xi 2)] [.obj [vb h0, vb h1, vb h2]]
                (cast trivial (by kernel_rfl)) (by kernel_rfl) ?_
              refine ⟨[(0, .y (.one (sv NI b nil capd l))), (1, xi hand), (5, .y (.one (.ptr 0 0))), (9, xi 2)], [.obj [vb h0, vb h1, vb h2]], by kernel_rfl, ?_⟩
              refine WpL.step ?_
              refine Wp.seq ?_
              refine Wp.regionSeq [] [(0, .y (.one (sv NI b nil capd l))), (1, xi hand), (5, .y (.one (.ptr 0 0))), (9, xi 2), (23, xb true)] [.obj [vb h0, vb h1, vb h2]]
                (cast trivial (by kernel_rfl)) (by kernel_rfl) ?_
              refine Wp.condT (by kernel_rfl) ?_
              refine Wp.skip ?_
              refine Wp.seq ?_
              refine Wp.block ?_
              refine Wp.regionSeq [(2, .y (.one (.rd ([vi 0] ++ (l.drop ((hand : Int).toNat + 1)).flatMap (enc NI)))), [.obj [vb h0, vb h1, vb h2]])] [(0, .y (.one (sv NI b nil capd l))), (1, xi hand), (5, .y (.one (.ptr 0 0))), (9, xi 2), (10, xi 2)] [.obj [vb h0, vb h1, vb h2]]
                (cast (And.intro (ob_index (P := pg) (A := an) (H := [.obj [vb h0, vb h1, vb h2]]) (s := NI) (b := b) (nil := nil) (capd := capd) (t := 22) (el := 3) (i := hand) Try.underlying22 (by kernel_rfl) (by kernel_rfl) (by omega) hx5) trivial) (by kernel_rfl)) (by kernel_rfl) ?_
              rcases Bool.eq_false_or_eq_true (h2) with c13 | c13
              ·
                refine Wp.regionSeq [(2, xb true, [.obj [vb h0, vb h1, vb h2]])] [(0, .y (.one (sv NI b nil capd l))), (1, xi hand), (5, .y (.one (.ptr 0 0))), (9, xi 2), (10, xi 2), (35, xb true)] [.obj [vb h0, vb h1, vb h2]]
                  (cast (And.intro (ob_raw (P := pg) (A := an) (vals := [.y (.one (.ptr 0 2))]) (H := [.obj [vb h0, vb h1, vb h2]]) (op := .load 4 (.tmp 0)) (ty := 0) (r := xb h2) (v := xb true) (by kernel_rfl) (congrArg (fun z => xb z) (c13))) trivial) (by kernel_rfl)) (by kernel_rfl) ?_
                refine Wp.condT (by kernel_rfl) ?_
                have hmz14 := mod_is (a := (hand + 1)) (b := (l.length : Int)) (by omega) (by omega)
                refine Wp.regionSeq [(2, xi (hand + 1), [.obj [vb h0, vb h1, vb h2]]), (5, xi ((hand + 1) % (l.length : Int)), [.obj [vb h0, vb h1, vb h2]])] [(6, xi 2), (7, xi ((hand + 1) % (l.length : Int))), (8, xi 0)] [.obj [vb h0, vb h1, vb h2]]
                  (cast (And.intro (ob_raw (P := pg) (A := an) (vals := [xi hand, xi 1]) (H := [.obj [vb h0, vb h1, vb h2]]) (op := .binOp .add 3 (.tmp 0) (.tmp 1) 3) (ty := 0) (r := xi (IntKind.wrap .i64 (hand + 1))) (v := xi (hand + 1)) (by kernel_rfl) (congrArg (fun z => xi z) ((wrap64 (by omega)).trans (by omega)))) (And.intro (ob_rem (P := pg) (A := an) (H := [.obj [vb h0, vb h1, vb h2]]) (t := 3) (u := 3) (ty := 0) (a := (hand + 1)) (b := (l.length : Int)) (by omega) (by omega)) trivial)) (by kernel_rfl)) (by kernel_rfl) ?_
                refine Wp.ret ?_
                exact ⟨Or.inr rfl, [.one (vi 2), .one (vi ((hand + 1) % (l.length : Int))), .one (vi 0)], by kernel_rfl, (by have hp : nx l hand h0 h1 h2 = (2, ((hand + 1) % (l.length : Int)), 0) := by { unfold nx; rw [c1]; rw [if_neg (by decide), if_neg (by omega)]; rw [show at_ l hand = 0 from at_of hx5]; simp [hasW, c7, c10, c13] }; rw [hp]; rfl)⟩
              ·
                refine Wp.regionSeq [(2, xb false, [.obj [vb h0, vb h1, vb h2]])] [(0, .y (.one (sv NI b nil capd l))), (1, xi hand), (5, .y (.one (.ptr 0 0))), (9, xi 2), (10, xi 2), (35, xb false)] [.obj [vb h0, vb h1, vb h2]]
                  (cast (And.intro (ob_raw (P := pg) (A := an) (vals := [.y (.one (.ptr 0 2))]) (H := [.obj [vb h0, vb h1, vb h2]]) (op := .load 4 (.tmp 0)) (ty := 0) (r := xb h2) (v := xb false) (by kernel_rfl) (congrArg (fun z => xb z) (c13))) trivial) (by kernel_rfl)) (by kernel_rfl) ?_
                refine Wp.condF (by kernel_rfl) ?_
                refine Wp.skip ?_
                refine Wp.region [] [(0, .y (.one (sv NI b nil capd l))), (1, xi hand), (5, .y (.one (.ptr 0 0))), (9, xi 3)] [.obj [vb h0, vb h1, vb h2]]
                  (cast trivial (by kernel_rfl)) (by kernel_rfl) ?_
                refine ⟨[(0, .y (.one (sv NI b nil capd l))), (1, xi hand), (5, .y (.one (.ptr 0 0))), (9, xi 3)], [.obj [vb h0, vb h1, vb h2]], by kernel_rfl, ?_⟩
                refine WpL.step ?_
                refine Wp.seq ?_
                refine Wp.regionSeq [] [(0, .y (.one (sv NI b nil capd l))), (1, xi hand), (5, .y (.one (.ptr 0 0))), (9, xi 3), (23, xb false)] [.obj [vb h0, vb h1, vb h2]]
                  (cast trivial (by kernel_rfl)) (by kernel_rfl) ?_
                refine Wp.condF (by kernel_rfl) ?_
                refine Wp.exit ?_
                refine Eq.mpr (if_pos rfl) ?_
                refine Wp.regionSeq [] [(6, xi 0), (7, xi 0), (8, xi 3)] [.obj [vb h0, vb h1, vb h2]]
                  (cast trivial (by kernel_rfl)) (by kernel_rfl) ?_
                refine Wp.ret ?_
                exact ⟨Or.inr rfl, [.one (vi 0), .one (vi 0), .one (vi 3)], by kernel_rfl, (by have hp : nx l hand h0 h1 h2 = (0, 0, 3) := by { unfold nx; rw [c1]; rw [if_neg (by decide), if_neg (by omega)]; rw [show at_ l hand = 0 from at_of hx5]; simp [hasW, c7, c10, c13] }; rw [hp]; rfl)⟩
        ·
          rcases Bool.eq_false_or_eq_true (h1) with c16 | c16
          ·
            refine Wp.regionSeq [(2, xb true, [.obj [vb h0, vb h1, vb h2]])] [(0, .y (.one (sv NI b nil capd l))), (1, xi hand), (5, .y (.one (.ptr 0 0))), (9, xi 0), (10, xi 1), (35, xb true)] [.obj [vb h0, vb h1, vb h2]]
              (cast (And.intro (ob_raw (P := pg) (A := an) (vals := [.y (.one (.ptr 0 1))]) (H := [.obj [vb h0, vb h1, vb h2]]) (op := .load 4 (.tmp 0)) (ty := 0) (r := xb h1) (v := xb true) (by kernel_rfl) (congrArg (fun z => xb z) (c16))) trivial) (by kernel_rfl)) (by kernel_rfl) ?_
            refine Wp.condT (by kernel_rfl) ?_
            have hmz17 := mod_is (a := (hand + 1)) (b := (l.length : Int)) (by omega) (by omega)
            refine Wp.regionSeq [(2, xi (hand + 1), [.obj [vb h0, vb h1, vb h2]]), (5, xi ((hand + 1) % (l.length : Int)), [.obj [vb h0, vb h1, vb h2]])] [(6, xi 1), (7, xi ((hand + 1) % (l.length : Int))), (8, xi 0)] [.obj [vb h0, vb h1, vb h2]]
              (cast (And.intro (ob_raw (P := pg) (A := an) (vals := [xi hand, xi 1]) (H := [.obj [vb h0, vb h1, vb h2]]) (op := .binOp .add 3 (.tmp 0) (.tmp 1) 3) (ty := 0) (r := xi (IntKind.wrap .i64 (hand + 1))) (v := xi (hand + 1)) (by kernel_rfl) (congrArg (fun z => xi z) ((wrap64 (by omega)).trans (by omega)))) (And.intro (ob_rem (P := pg) (A := an) (H := [.obj [vb h0, vb h1, vb h2]]) (t := 3) (u := 3) (ty := 0) (a := (hand + 1)) (b := (l.length : Int)) (by omega) (by omega)) trivial)) (by kernel_rfl)) (by kernel_rfl) ?_
            refine Wp.ret ?_
            exact ⟨Or.inr rfl, [.one (vi 1), .one (vi ((hand + 1) % (l.length : Int))), .one (vi 0)], by kernel_rfl, (by have hp : nx l hand h0 h1 h2 = (1, ((hand + 1) % (l.length : Int)), 0) := by { unfold nx; rw [c1]; rw [if_neg (by decide), if_neg (by omega)]; rw [show at_ l hand = 1 from at_of hx5]; simp [hasW, c16] }; rw [hp]; rfl)⟩
          ·
            refine Wp.regionSeq [(2, xb false, [.obj [vb h0, vb h1, vb h2]])] [(0, .y (.one (sv NI b nil capd l))), (1, xi hand), (5, .y (.one (.ptr 0 0))), (9, xi 0), (10, xi 1), (35, xb false)] [.obj [vb h0, vb h1, vb h2]]
              (cast (And.intro (ob_raw (P := pg) (A := an) (vals := [.y (.one (.ptr 0 1))]) (H := [.obj [vb h0, vb h1, vb h2]]) (op := .load 4 (.tmp 0)) (ty := 0) (r := xb h1) (v := xb false) (by kernel_rfl) (congrArg (fun z => xb z) (c16))) trivial) (by kernel_rfl)) (by kernel_rfl) ?_
            refine Wp.condF (by kernel_rfl) ?_
            refine Wp.skip ?_
            refine Wp.region [] [(0, .y (.one (sv NI b nil capd l))), (1, xi hand), (5, .y (.one (.ptr 0 0))), (9, xi 1)] [.obj [vb h0, vb h1, vb h2]]
              (cast trivial (by kernel_rfl)) (by kernel_rfl) ?_
            refine ⟨[(0, .y (.one (sv NI b nil capd l))), (1, xi hand), (5, .y (.one (.ptr 0 0))), (9, xi 1)], [.obj [vb h0, vb h1, vb h2]], by kernel_rfl, ?_⟩
            refine WpL.step ?_
            refine Wp.seq ?_
            refine Wp.regionSeq [] [(0, .y (.one (sv NI b nil capd l))), (1, xi hand), (5, .y (.one (.ptr 0 0))), (9, xi 1), (23, xb true)] [.obj [vb h0, vb h1, vb h2]]
              (cast trivial (by kernel_rfl)) (by kernel_rfl) ?_
            refine Wp.condT (by kernel_rfl) ?_
            refine Wp.skip ?_
            refine Wp.seq ?_
            refine Wp.block ?_
            refine Wp.regionSeq [(2, .y (.one (.rd ([vi 1] ++ (l.drop ((hand : Int).toNat + 1)).flatMap (enc NI)))), [.obj [vb h0, vb h1, vb h2]])] [(0, .y (.one (sv NI b nil capd l))), (1, xi hand), (5, .y (.one (.ptr 0 0))), (9, xi 1), (10, xi 2)] [.obj [vb h0, vb h1, vb h2]]
              (cast (And.intro (ob_index (P := pg) (A := an) (H := [.obj [vb h0, vb h1, vb h2]]) (s := NI) (b := b) (nil := nil) (capd := capd) (t := 22) (el := 3) (i := hand) Try.underlying22 (by kernel_rfl) (by kernel_rfl) (by omega) hx5) trivial) (by kernel_rfl)) (by kernel_rfl) ?_
            rcases Bool.eq_false_or_eq_true (h2) with c19 | c19
            ·
              refine Wp.regionSeq [(2, xb true, [.obj [vb h0, vb h1, vb h2]])] [(0, .y (.one (sv NI b nil capd l))), (1, xi hand), (5, .y (.one (.ptr 0 0))), (9, xi 1), (10, xi 2), (35, xb true)] [.obj [vb h0, vb h1, vb h2]]
                (cast (And.intro (ob_raw (P := pg) (A := an) (vals := [.y (.one (.ptr 0 2))]) (H := [.obj [vb h0, vb h1, vb h2]]) (op := .load 4 (.tmp 0)) (ty := 0) (r := xb h2) (v := xb true) (by kernel_rfl) (congrArg (fun z => xb z) (c19))) trivial) (by kernel_rfl)) (by kernel_rfl) ?_
              refine Wp.condT (by kernel_rfl) ?_
              have hmz20 := mod_is (a := (hand + 1)) (b := (l.length : Int)) (by omega) (by omega)
              refine Wp.regionSeq [(2, xi (hand + 1), [.obj [vb h0, vb h1, vb h2]]), (5, xi ((hand + 1) % (l.length : Int)), [.obj [vb h0, vb h1, vb h2]])] [(6, xi 2), (7, xi ((hand + 1) % (l.length : Int))), (8, xi 0)] [.obj [vb h0, vb h1, vb h2]]
                (cast (And.intro (ob_raw (P := pg) (A := an) (vals := [xi hand, xi 1]) (H := [.obj [vb h0, vb h1, vb h2]]) (op := .binOp .add 3 (.tmp 0) (.tmp 1) 3) (ty := 0) (r := xi (IntKind.wrap .i64 (hand + 1))) (v := xi (hand + 1)) (by kernel_rfl) (congrArg (fun z => xi z) ((wrap64 (by omega)).trans (by omega)))) (And.intro (ob_rem (P := pg) (A := an) (H := [.obj [vb h0, vb h1, vb h2]]) (t := 3) (u := 3) (ty := 0) (a := (hand + 1)) (b := (l.length : Int)) (by omega) (by omega)) trivial)) (by kernel_rfl)) (by kernel_rfl) ?_
              refine Wp.ret ?_
              exact ⟨Or.inr rfl, [.one (vi 2), .one (vi ((hand + 1) % (l.length : Int))), .one (vi 0)], by kernel_rfl, (by have hp : nx l hand h0 h1 h2 = (2, ((hand + 1) % (l.length : Int)), 0) := by { unfold nx; rw [c1]; rw [if_neg (by decide), if_neg (by omega)]; rw [show at_ l hand = 1 from at_of hx5]; simp [hasW, c16, c19] }; rw [hp]; rfl)⟩
            ·
              refine Wp.regionSeq [(2, xb false, [.obj [vb h0, vb h1, vb h2]])] [(0, .y (.one (sv NI b nil capd l))), (1, xi hand), (5, .y (.one (.ptr 0 0))), (9, xi 1), (10, xi 2), (35, xb false)] [.obj [vb h0, vb h1, vb h2]]
                (cast (And.intro (ob_raw (P := pg) (A := an) (vals := [.y (.one (.ptr 0 2))]) (H := [.obj [vb h0, vb h1, vb h2]]) (op := .load 4 (.tmp 0)) (ty := 0) (r := xb h2) (v := xb false) (by kernel_rfl) (congrArg (fun z => xb z) (c19))) trivial) (by kernel_rfl)) (by kernel_rfl) ?_
              refine Wp.condF (by kernel_rfl) ?_
              refine Wp.skip ?_
              refine Wp.region [] [(0, .y (.one (sv NI b nil capd l))), (1, xi hand), (5, .y (.one (.ptr 0 0))), (9, xi 2)] [.obj [vb h0, vb h1, vb h2]]
                (cast trivial (by kernel_rfl)) (by kernel_rfl) ?_
              refine ⟨[(0, .y (.one (sv NI b nil capd l))), (1, xi hand), (5, .y (.one (.ptr 0 0))), (9, xi 2)], [.obj [vb h0, vb h1, vb h2]], by kernel_rfl, ?_⟩
              refine WpL.step ?_
              refine Wp.seq ?_
              refine Wp.regionSeq [] [(0, .y (.one (sv NI b nil capd l))), (1, xi hand), (5, .y (.one (.ptr 0 0))), (9, xi 2), (23, xb true)] [.obj [vb h0, vb h1, vb h2]]
                (cast trivial (by kernel_rfl)) (by kernel_rfl) ?_
              refine Wp.condT (by kernel_rfl) ?_
              refine Wp.skip ?_
              refine Wp.seq ?_
              refine Wp.block ?_
              refine Wp.regionSeq [(2, .y (.one (.rd ([vi 1] ++ (l.drop ((hand : Int).toNat + 1)).flatMap (enc NI)))), [.obj [vb h0, vb h1, vb h2]])] [(0, .y (.one (sv NI b nil capd l))), (1, xi hand), (5, .y (.one (.ptr 0 0))), (9, xi 2), (10, xi 0)] [.obj [vb h0, vb h1, vb h2]]
                (cast (And.intro (ob_index (P := pg) (A := an) (H := [.obj [vb h0, vb h1, vb h2]]) (s := NI) (b := b) (nil := nil) (capd := capd) (t := 22) (el := 3) (i := hand) Try.underlying22 (by kernel_rfl) (by kernel_rfl) (by omega) hx5) trivial) (by kernel_rfl)) (by kernel_rfl) ?_
              rcases Bool.eq_false_or_eq_true (h0) with c22 | c22
              ·
                refine Wp.regionSeq [(2, xb true, [.obj [vb h0, vb h1, vb h2]])] [(0, .y (.one (sv NI b nil capd l))), (1, xi hand), (5, .y (.one (.ptr 0 0))), (9, xi 2), (10, xi 0), (35, xb true)] [.obj [vb h0, vb h1, vb h2]]
                  (cast (And.intro (ob_raw (P := pg) (A := an) (vals := [.y (.one (.ptr 0 0))]) (H := [.obj [vb h0, vb h1, vb h2]]) (op := .load 4 (.tmp 0)) (ty := 0) (r := xb h0) (v := xb true) (by kernel_rfl) (congrArg (fun z => xb z) (c22))) trivial) (by kernel_rfl)) (by kernel_rfl) ?_
                refine Wp.condT (by kernel_rfl) ?_
                have hmz23 := mod_is (a := (hand + 1)) (b := (l.length : Int)) (by omega) (by omega)
                refine Wp.regionSeq [(2, xi (hand + 1), [.obj [vb h0, vb h1, vb h2]]), (5, xi ((hand + 1) % (l.length : Int)), [.obj [vb h0, vb h1, vb h2]])] [(6, xi 0), (7, xi ((hand + 1) % (l.length : Int))), (8, xi 0)] [.obj [vb h0, vb h1, vb h2]]
                  (cast (And.intro (ob_raw (P := pg) (A := an) (vals := [xi hand, xi 1]) (H := [.obj [vb h0, vb h1, vb h2]]) (op := .binOp .add 3 (.tmp 0) (.tmp 1) 3) (ty := 0) (r := xi (IntKind.wrap .i64 (hand + 1))) (v := xi (hand + 1)) (by kernel_rfl) (congrArg (fun z => xi z) ((wrap64 (by omega)).trans (by omega)))) (And.intro (ob_rem (P := pg) (A := an) (H := [.obj [vb h0, vb h1, vb h2]]) (t := 3) (u := 3) (ty := 0) (a := (hand + 1)) (b := (l.length : Int)) (by omega) (by omega)) trivial)) (by kernel_rfl)) (by kernel_rfl) ?_
                refine Wp.ret ?_
                exact ⟨Or.inr rfl, [.one (vi 0), .one (vi ((hand + 1) % (l.length : Int))), .one (vi 0)], by kernel_rfl, (by have hp : nx l hand h0 h1 h2 = (0, ((hand + 1) % (l.length : Int)), 0) := by { unfold nx; rw [c1]; rw [if_neg (by decide), if_neg (by omega)]; rw [show at_ l hand = 1 from at_of hx5]; simp [hasW, c22, c16, c19] }; rw [hp]; rfl)⟩
              ·
                refine Wp.regionSeq [(2, xb false, [.obj [vb h0, vb h1, vb h2]])] [(0, .y (.one (sv NI b nil capd l))), (1, xi hand), (5, .y (.one (.ptr 0 0))), (9, xi 2), (10, xi 0), (35, xb false)] [.obj [vb h0, vb h1, vb h2]]
                  (cast (And.intro (ob_raw (P := pg) (A := an) (vals := [.y (.one (.ptr 0 0))]) (H := [.obj [vb h0, vb h1, vb h2]]) (op := .load 4 (.tmp 0)) (ty := 0) (r := xb h0) (v := xb false) (by kernel_rfl) (congrArg (fun z => xb z) (c22))) trivial) (by kernel_rfl)) (by kernel_rfl) ?_
                refine Wp.condF (by kernel_rfl) ?_
                refine Wp.skip ?_
                refine Wp.region [] [(0, .y (.one (sv NI b nil capd l))), (1, xi hand), (5, .y (.one (.ptr 0 0))), (9, xi 3)] [.obj [vb h0, vb h1, vb h2]]
                  (cast trivial (by kernel_rfl)) (by kernel_rfl) ?_
                refine ⟨[(0, .y (.one (sv NI b nil capd l))), (1, xi hand), (5, .y (.one (.ptr 0 0))), (9, xi 3)], [.obj [vb h0, vb h1, vb h2]], by kernel_rfl, ?_⟩
                refine WpL.step ?_
                refine Wp.seq ?_
                refine Wp.regionSeq [] [(0, .y (.one (sv NI b nil capd l))), (1, xi hand), (5, .y (.one (.ptr 0 0))), (9, xi 3), (23, xb false)] [.obj [vb h0, vb h1, vb h2]]
                  (cast trivial (by kernel_rfl)) (by kernel_rfl) ?_
                refine Wp.condF (by kernel_rfl) ?_
                refine Wp.exit ?_
                refine Eq.mpr (if_pos rfl) ?_
                refine Wp.regionSeq [] [(6, xi 0), (7, xi 0), (8, xi 3)] [.obj [vb h0, vb h1, vb h2]]
                  (cast trivial (by kernel_rfl)) (by kernel_rfl) ?_
                refine Wp.ret ?_
                exact ⟨Or.inr rfl, [.one (vi 0), .one (vi 0), .one (vi 3)], by kernel_rfl, (by have hp : nx l hand h0 h1 h2 = (0, 0, 3) := by { unfold nx; rw [c1]; rw [if_neg (by decide), if_neg (by omega)]; rw [show at_ l hand = 1 from at_of hx5]; simp [hasW, c22, c16, c19] }; rw [hp]; rfl)⟩
        ·
          rcases Bool.eq_false_or_eq_true (h2) with c25 | c25
          ·
            refine Wp.regionSeq [(2, xb true, [.obj [vb h0, vb h1, vb h2]])] [(0, .y (.one (sv NI b nil capd l))), (1, xi hand), (5, .y (.one (.ptr 0 0))), (9, xi 0), (10, xi 2), (35, xb true)] [.obj [vb h0, vb h1, vb h2]]
              (cast (And.intro (ob_raw (P := pg) (A := an) (vals := [.y (.one (.ptr 0 2))]) (H := [.obj [vb h0, vb h1, vb h2]]) (op := .load 4 (.tmp 0)) (ty := 0) (r := xb h2) (v := xb true) (by kernel_rfl) (congrArg (fun z => xb z) (c25))) trivial) (by kernel_rfl)) (by kernel_rfl) ?_
            refine Wp.condT (by kernel_rfl) ?_
            have hmz26 := mod_is (a := (hand + 1)) (b := (l.length : Int)) (by omega) (by omega)
            refine Wp.regionSeq [(2, xi (hand + 1), [.obj [vb h0, vb h1, vb h2]]), (5, xi ((hand + 1) % (l.length : Int)), [.obj [vb h0, vb h1, vb h2]])] [(6, xi 2), (7, xi ((hand + 1) % (l.length : Int))), (8, xi 0)] [.obj [vb h0, vb h1, vb h2]]
              (cast (And.intro (ob_raw (P := pg) (A := an) (vals := [xi hand, xi 1]) (H := [.obj [vb h0, vb h1, vb h2]]) (op := .binOp .add 3 (.tmp 0) (.tmp 1) 3) (ty := 0) (r := xi (IntKind.wrap .i64 (hand + 1))) (v := xi (hand + 1)) (by kernel_rfl) (congrArg (fun z => xi z) ((wrap64 (by omega)).trans (by omega)))) (And.intro (ob_rem (P := pg) (A := an) (H := [.obj [vb h0, vb h1, vb h2]]) (t := 3) (u := 3) (ty := 0) (a := (hand + 1)) (b := (l.length : Int)) (by omega) (by omega)) trivial)) (by kernel_rfl)) (by kernel_rfl) ?_
            refine Wp.ret ?_
            exact ⟨Or.inr rfl, [.one (vi 2), .one (vi ((hand + 1) % (l.length : Int))), .one (vi 0)], by kernel_rfl, (by have hp : nx l hand h0 h1 h2 = (2, ((hand + 1) % (l.length : Int)), 0) := by { unfold nx; rw [c1]; rw [if_neg (by decide), if_neg (by omega)]; rw [show at_ l hand = 2 from at_of hx5]; simp [hasW, c25] }; rw [hp]; rfl)⟩
          ·
            refine Wp.regionSeq [(2, xb false, [.obj [vb h0, vb h1, vb h2]])] [(0, .y (.one (sv NI b nil capd l))), (1, xi hand), (5, .y (.one (.ptr 0 0))), (9, xi 0), (10, xi 2), (35, xb false)] [.obj [vb h0, vb h1, vb h2]]
              (cast (And.intro (ob_raw (P := pg) (A := an) (vals := [.y (.one (.ptr 0 2))]) (H := [.obj [vb h0, vb h1, vb h2]]) (op := .load 4 (.tmp 0)) (ty := 0) (r := xb h2) (v := xb false) (by kernel_rfl) (congrArg (fun z => xb z) (c25))) trivial) (by kernel_rfl)) (by kernel_rfl) ?_
            refine Wp.condF (by kernel_rfl) ?_
            refine Wp.skip ?_
            refine Wp.region [] [(0, .y (.one (sv NI b nil capd l))), (1, xi hand), (5, .y (.one (.ptr 0 0))), (9, xi 1)] [.obj [vb h0, vb h1, vb h2]]
              (cast trivial (by kernel_rfl)) (by kernel_rfl) ?_
            refine ⟨[(0, .y (.one (sv NI b nil capd l))), (1, xi hand), (5, .y (.one (.ptr 0 0))), (9, xi 1)], [.obj [vb h0, vb h1, vb h2]], by kernel_rfl, ?_⟩
            refine WpL.step ?_
            refine Wp.seq ?_
            refine Wp.regionSeq [] [(0, .y (.one (sv NI b nil capd l))), (1, xi hand), (5, .y (.one (.ptr 0 0))), (9, xi 1), (23, xb true)] [.obj [vb h0, vb h1, vb h2]]
              (cast trivial (by kernel_rfl)) (by kernel_rfl) ?_
            refine Wp.condT (by kernel_rfl) ?_
            refine Wp.skip ?_
            refine Wp.seq ?_
            refine Wp.block ?_
            refine Wp.regionSeq [(2, .y (.one (.rd ([vi 2] ++ (l.drop ((hand : Int).toNat + 1)).flatMap (enc NI)))), [.obj [vb h0, vb h1, vb h2]])] [(0, .y (.one (sv NI b nil capd l))), (1, xi hand), (5, .y (.one (.ptr 0 0))), (9, xi 1), (10, xi 0)] [.obj [vb h0, vb h1, vb h2]]
              (cast (And.intro (ob_index (P := pg) (A := an) (H := [.obj [vb h0, vb h1, vb h2]]) (s := NI) (b := b) (nil := nil) (capd := capd) (t := 22) (el := 3) (i := hand) Try.underlying22 (by kernel_rfl) (by kernel_rfl) (by omega) hx5) trivial) (by kernel_rfl)) (by kernel_rfl) ?_
            rcases Bool.eq_false_or_eq_true (h0) with c28 | c28
            ·
              refine Wp.regionSeq [(2, xb true, [.obj [vb h0, vb h1, vb h2]])] [(0, .y (.one (sv NI b nil capd l))), (1, xi hand), (5, .y (.one (.ptr 0 0))), (9, xi 1), (10, xi 0), (35, xb true)] [.obj [vb h0, vb h1, vb h2]]
                (cast (And.intro (ob_raw (P := pg) (A := an) (vals := [.y (.one (.ptr 0 0))]) (H := [.obj [vb h0, vb h1, vb h2]]) (op := .load 4 (.tmp 0)) (ty := 0) (r := xb h0) (v := xb true) (by kernel_rfl) (congrArg (fun z => xb z) (c28))) trivial) (by kernel_rfl)) (by kernel_rfl) ?_
              refine Wp.condT (by kernel_rfl) ?_
              have hmz29 := mod_is (a := (hand + 1)) (b := (l.length : Int)) (by omega) (by omega)
              refine Wp.regionSeq [(2, xi (hand + 1), [.obj [vb h0, vb h1, vb h2]]), (5, xi ((hand + 1) % (l.length : Int)), [.obj [vb h0, vb h1, vb h2]])] [(6, xi 0), (7, xi ((hand + 1) % (l.length : Int))), (8, xi 0)] [.obj [vb h0, vb h1, vb h2]]
                (cast (And.intro (ob_raw (P := pg) (A := an) (vals := [xi hand, xi 1]) (H := [.obj [vb h0, vb h1, vb h2]]) (op := .binOp .add 3 (.tmp 0) (.tmp 1) 3) (ty := 0) (r := xi (IntKind.wrap .i64 (hand + 1))) (v := xi (hand + 1)) (by kernel_rfl) (congrArg (fun z => xi z) ((wrap64 (by omega)).trans (by omega)))) (And.intro (ob_rem (P := pg) (A := an) (H := [.obj [vb h0, vb h1, vb h2]]) (t := 3) (u := 3) (ty := 0) (a := (hand + 1)) (b := (l.length : Int)) (by omega) (by omega)) trivial)) (by kernel_rfl)) (by kernel_rfl) ?_
              refine Wp.ret ?_
              exact ⟨Or.inr rfl, [.one (vi 0), .one (vi ((hand + 1) % (l.length : Int))), .one (vi 0)], by kernel_rfl, (by have hp : nx l hand h0 h1 h2 = (0, ((hand + 1) % (l.length : Int)), 0) := by { unfold nx; rw [c1]; rw [if_neg (by decide), if_neg (by omega)]; rw [show at_ l hand = 2 from at_of hx5]; simp [hasW, c28, c25] }; rw [hp]; rfl)⟩
            ·
              refine Wp.regionSeq [(2, xb false, [.obj [vb h0, vb h1, vb h2]])] [(0, .y (.one (sv NI b nil capd l))), (1, xi hand), (5, .y (.one (.ptr 0 0))), (9, xi 1), (10, xi 0), (35, xb false)] [.obj [vb h0, vb h1, vb h2]]
                (cast (And.intro (ob_raw (P := pg) (A := an) (vals := [.y (.one (.ptr 0 0))]) (H := [.obj [vb h0, vb h1, vb h2]]) (op := .load 4 (.tmp 0)) (ty := 0) (r := xb h0) (v := xb false) (by kernel_rfl) (congrArg (fun z => xb z) (c28))) trivial) (by kernel_rfl)) (by kernel_rfl) ?_
              refine Wp.condF (by kernel_rfl) ?_
              refine Wp.skip ?_
              refine Wp.region [] [(0, .y (.one (sv NI b nil capd l))), (1, xi hand), (5, .y (.one (.ptr 0 0))), (9, xi 2)] [.obj [vb h0, vb h1, vb h2]]
                (cast trivial (by kernel_rfl)) (by kernel_rfl) ?_
              refine ⟨[(0, .y (.one (sv NI b nil capd l))), (1, xi hand), (5, .y (.one (.ptr 0 0))), (9, xi 2)], [.obj [vb h0, vb h1, vb h2]], by kernel_rfl, ?_⟩
              refine WpL.step ?_
              refine Wp.seq ?_
              refine Wp.regionSeq [] [(0, .y (.one (sv NI b nil capd l))), (1, xi hand), (5, .y (.one (.ptr 0 0))), (9, xi 2), (23, xb true)] [.obj [vb h0, vb h1, vb h2]]
                (cast trivial (by kernel_rfl)) (by kernel_rfl) ?_
              refine Wp.condT (by kernel_rfl) ?_
              refine Wp.skip ?_
              refine Wp.seq ?_
              refine Wp.block ?_
              refine Wp.regionSeq [(2, .y (.one (.rd ([vi 2] ++ (l.drop ((hand : Int).toNat + 1)).flatMap (enc NI)))), [.obj [vb h0, vb h1, vb h2]])] [(0, .y (.one (sv NI b nil capd l))), (1, xi hand), (5, .y (.one (.ptr 0 0))), (9, xi 2), (10, xi 1)] [.obj [vb h0, vb h1, vb h2]]
                (cast (And.intro (ob_index (P := pg) (A := an) (H := [.obj [vb h0, vb h1, vb h2]]) (s := NI) (b := b) (nil := nil) (capd := capd) (t := 22) (el := 3) (i := hand) Try.underlying22 (by kernel_rfl) (by kernel_rfl) (by omega) hx5) trivial) (by kernel_rfl)) (by kernel_rfl) ?_
              rcases Bool.eq_false_or_eq_true (h1) with c31 | c31
              ·
                refine Wp.regionSeq [(2, xb true, [.obj [vb h0, vb h1, vb h2]])] [(0, .y (.one (sv NI b nil capd l))), (1, xi hand), (5, .y (.one (.ptr 0 0))), (9, xi 2), (10, xi 1), (35, xb true)] [.obj [vb h0, vb h1, vb h2]]
                  (cast (And.intro (ob_raw (P := pg) (A := an) (vals := [.y (.one (.ptr 0 1))]) (H := [.obj [vb h0, vb h1, vb h2]]) (op := .load 4 (.tmp 0)) (ty := 0) (r := xb h1) (v := xb true) (by kernel_rfl) (congrArg (fun z => xb z) (c31))) trivial) (by kernel_rfl)) (by kernel_rfl) ?_
                refine Wp.condT (by kernel_rfl) ?_
                have hmz32 := mod_is (a := (hand + 1)) (b := (l.length : Int)) (by omega) (by omega)
                refine Wp.regionSeq [(2, xi (hand + 1), [.obj [vb h0, vb h1, vb h2]]), (5, xi ((hand + 1) % (l.length : Int)), [.obj [vb h0, vb h1, vb h2]])] [(6, xi 1), (7, xi ((hand + 1) % (l.length : Int))), (8, xi 0)] [.obj [vb h0, vb h1, vb h2]]
                  (cast (And.intro (ob_raw (P := pg) (A := an) (vals := [xi hand, xi 1]) (H := [.obj [vb h0, vb h1, vb h2]]) (op := .binOp .add 3 (.tmp 0) (.tmp 1) 3) (ty := 0) (r := xi (IntKind.wrap .i64 (hand + 1))) (v := xi (hand + 1)) (by kernel_rfl) (congrArg (fun z => xi z) ((wrap64 (by omega)).trans (by omega)))) (And.intro (ob_rem (P := pg) (A := an) (H := [.obj [vb h0, vb h1, vb h2]]) (t := 3) (u := 3) (ty := 0) (a := (hand + 1)) (b := (l.length : Int)) (by omega) (by omega)) trivial)) (by kernel_rfl)) (by kernel_rfl) ?_
                refine Wp.ret ?_
                exact ⟨Or.inr rfl, [.one (vi 1), .one (vi ((hand + 1) % (l.length : Int))), .one (vi 0)], by kernel_rfl, (by have hp : nx l hand h0 h1 h2 = (1, ((hand + 1) % (l.length : Int)), 0) := by { unfold nx; rw [c1]; rw [if_neg (by decide), if_neg (by omega)]; rw [show at_ l hand = 2 from at_of hx5]; simp [hasW, c28, c31, c25] }; rw [hp]; rfl)⟩
              ·
                refine Wp.regionSeq [(2, xb false, [.obj [vb h0, vb h1, vb h2]])] [(0, .y (.one (sv NI b nil capd l))), (1, xi hand), (5, .y (.one (.ptr 0 0))), (9, xi 2), (10, xi 1), (35, xb false)] [.obj [vb h0, vb h1, vb h2]]
                  (cast (And.intro (ob_raw (P := pg) (A := an) (vals := [.y (.one (.ptr 0 1))]) (H := [.obj [vb h0, vb h1, vb h2]]) (op := .load 4 (.tmp 0)) (ty := 0) (r := xb h1) (v := xb false) (by kernel_rfl) (congrArg (fun z => xb z) (c31))) trivial) (by kernel_rfl)) (by kernel_rfl) ?_
                refine Wp.condF (by kernel_rfl) ?_
                refine Wp.skip ?_
                refine Wp.region [] [(0, .y (.one (sv NI b nil capd l))), (1, xi hand), (5, .y (.one (.ptr 0 0))), (9, xi 3)] [.obj [vb h0, vb h1, vb h2]]
                  (cast trivial (by kernel_rfl)) (by kernel_rfl) ?_
                refine ⟨[(0, .y (.one (sv NI b nil capd l))), (1, xi hand), (5, .y (.one (.ptr 0 0))), (9, xi 3)], [.obj [vb h0, vb h1, vb h2]], by kernel_rfl, ?_⟩
                refine WpL.step ?_
                refine Wp.seq ?_
                refine Wp.regionSeq [] [(0, .y (.one (sv NI b nil capd l))), (1, xi hand), (5, .y (.one (.ptr 0 0))), (9, xi 3), (23, xb false)] [.obj [vb h0, vb h1, vb h2]]
                  (cast trivial (by kernel_rfl)) (by kernel_rfl) ?_
                refine Wp.condF (by kernel_rfl) ?_
                refine Wp.exit ?_
                refine Eq.mpr (if_pos rfl) ?_
                refine Wp.regionSeq [] [(6, xi 0), (7, xi 0), (8, xi 3)] [.obj [vb h0, vb h1, vb h2]]
                  (cast trivial (by kernel_rfl)) (by kernel_rfl) ?_
                refine Wp.ret ?_
                exact ⟨Or.inr rfl, [.one (vi 0), .one (vi 0), .one (vi 3)], by kernel_rfl, (by have hp : nx l hand h0 h1 h2 = (0, 0, 3) := by { unfold nx; rw [c1]; rw [if_neg (by decide), if_neg (by omega)]; rw [show at_ l hand = 2 from at_of hx5]; simp [hasW, c28, c31, c25] }; rw [hp]; rfl)⟩
  ·
    refine Wp.regionSeq [(1, xi 20, [.obj [vb h0, vb h1, vb h2]])] [(0, .y (.one (sv NI b nil capd l))), (1, xi hand), (5, .y (.one (.ptr 0 0))), (13, xb true)] [.obj [vb h0, vb h1, vb h2]]
      (cast (And.intro (ob_pure (P := pg) (A := an) (H := [.obj [vb h0, vb h1, vb h2]]) (g := 14) (vals := [.y (.one (sv NI b nil capd l))]) (xs0 := [.one (sv NI b nil capd l)]) (xs1 := [.one (sv NI b nil capd l)]) (res := [.one (vi 20)]) (ats := #[]) (ty := 0) (v := xi 20) [.tmp 0] (by kernel_rfl) (by kernel_rfl) (by kernel_rfl) (by have := fn14 b nil capd l (by omega); rw [c1] at this; exact this) (by kernel_rfl)) trivial) (by kernel_rfl)) (by kernel_rfl) ?_
    refine Wp.condT (by kernel_rfl) ?_
    refine Wp.regionSeq [] [(6, xi 0), (7, xi 0), (8, xi 20)] [.obj [vb h0, vb h1, vb h2]]
      (cast trivial (by kernel_rfl)) (by kernel_rfl) ?_
    refine Wp.ret ?_
    exact ⟨Or.inr rfl, [.one (vi 0), .one (vi 0), .one (vi 20)], by kernel_rfl, (by have hp : nx l hand h0 h1 h2 = (0, 0, 20) := by { unfold nx; rw [c1]; rfl }; rw [hp]; rfl)⟩
end Go.Proofs.Ytoieblpjklbmoaa
