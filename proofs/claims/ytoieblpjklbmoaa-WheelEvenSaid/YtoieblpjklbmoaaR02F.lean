/-
  Wheel: served. (Printed by sx/r02.py.)
-/
import Derived.Test.YtoieblpjklbmoaaR02E
namespace Go.Proofs.Ytoieblpjklbmoaa
open Go.Lg
set_option linter.unusedVariables false
set_option maxRecDepth 100000
set_option linter.unusedSimpArgs false
def cnt (c : Int) (l : List Int) : Int := (l.count c : Nat)
def cyc (l : List Int) (h c : Int) : Nat → Int
  | 0 => 0
  | k + 1 => cyc l h c k + if at_ l ((h + (k : Int)) % (l.length : Int)) = c then 1 else 0
def srv (l : List Int) (h t c : Int) : Int := (t / (l.length : Int)) * cnt c l + cyc l h c (t % (l.length : Int)).toNat
theorem cnt_le {c : Int} {l : List Int} : 0 ≤ cnt c l ∧ cnt c l ≤ (l.length : Int) := by
  have := List.count_le_length (a := c) (l := l)
  unfold cnt
  omega
theorem cyc_le {l : List Int} {h c : Int} : ∀ {k : Nat}, 0 ≤ cyc l h c k ∧ cyc l h c k ≤ k := by
  intro k
  induction k with
  | zero => unfold cyc; omega
  | succ k ih => unfold cyc; split <;> omega
theorem mul_le_of {q m n t : Int} (h0 : 0 ≤ q) (h1 : m ≤ n) (h2 : q * n ≤ t) : q * m ≤ t := Int.le_trans (Int.mul_le_mul_of_nonneg_left h1 h0) h2
theorem quo_le {t n : Int} (h : 0 < n) : t / n * n + t % n = t := Int.ediv_mul_add_emod t n
theorem srv_bd {l : List Int} {t i o c : Int} (h0 : 0 ≤ t) (h1 : 0 ≤ i) (h2 : i < (l.length : Int)) (h : o = t / (l.length : Int) * cnt c (l.take i.toNat)) : 0 ≤ o ∧ o + t / (l.length : Int) ≤ t := by
  have hq := (div_is (b := (l.length : Int)) h0 (by omega)).1
  have hc := cnt_le (c := c) (l := l.take i.toNat)
  rw [List.length_take] at hc
  have he := quo_le (t := t) (n := (l.length : Int)) (by omega)
  have hr := Int.emod_nonneg t (b := (l.length : Int)) (by omega)
  have := mul_le_of (q := t / (l.length : Int)) (m := cnt c (l.take i.toNat) + 1) (n := (l.length : Int)) (t := t) hq (by omega) (by omega)
  rw [Int.mul_add, Int.mul_one] at this
  subst h
  exact ⟨Int.mul_nonneg hq hc.1, by omega⟩
theorem srv_bd2 {l : List Int} {t k o hd c : Int} (h0 : 0 ≤ t) (hl : 0 < (l.length : Int)) (h1 : 0 ≤ k) (h2 : k < t % (l.length : Int)) (h : o = t / (l.length : Int) * cnt c l + cyc l hd c k.toNat) : 0 ≤ o ∧ o + 1 ≤ t := by
  have hq := (div_is (b := (l.length : Int)) h0 (by omega)).1
  have hc := cnt_le (c := c) (l := l)
  have he := quo_le (t := t) (n := (l.length : Int)) (by omega)
  have hy := cyc_le (l := l) (h := hd) (c := c) (k := k.toNat)
  have := mul_le_of (q := t / (l.length : Int)) (m := cnt c l) (n := (l.length : Int)) (t := t / (l.length : Int) * (l.length : Int)) hq (by omega) (Int.le_refl _)
  have h3 := Int.mul_nonneg hq hc.1
  subst h
  omega
theorem count_snoc (l : List Int) (x c : Int) : cnt c (l ++ [x]) = cnt c l + if x = c then 1 else 0 := by
  unfold cnt
  rw [List.count_append, List.count_singleton]
  by_cases e : x = c
  · subst e; simp
  · simp [e]
theorem cnt_hit {l : List Int} {i o q c : Int} (h1 : 0 ≤ i) (hx : l[i.toNat]? = some c) (h : o = q * cnt c (l.take i.toNat)) : o + q = q * cnt c (l.take (i + 1).toNat) := by
  rw [take_snoc h1 hx, count_snoc, if_pos rfl, Int.mul_add, Int.mul_one, ← h]
theorem cnt_miss {l : List Int} {i o q c x : Int} (h1 : 0 ≤ i) (hx : l[i.toNat]? = some x) (hne : x ≠ c) (h : o = q * cnt c (l.take i.toNat)) : o = q * cnt c (l.take (i + 1).toNat) := by
  rw [take_snoc h1 hx, count_snoc, if_neg hne, Int.add_zero, ← h]
theorem cyc_succ {l : List Int} {h c k x : Int} (hk : 0 ≤ k) (hx : l[((h + k) % (l.length : Int)).toNat]? = some x) : cyc l h c (k + 1).toNat = cyc l h c k.toNat + if x = c then 1 else 0 := by
  rw [show (k + 1).toNat = k.toNat + 1 by omega, cyc, show ((k.toNat : Nat) : Int) = k by omega, at_of hx]
theorem cyc_hit {l : List Int} {h c k o a : Int} (hk : 0 ≤ k) (hx : l[((h + k) % (l.length : Int)).toNat]? = some c) (ho : o = a + cyc l h c k.toNat) : o + 1 = a + cyc l h c (k + 1).toNat := by
  rw [cyc_succ hk hx, if_pos rfl, ho]; omega
theorem cyc_miss {l : List Int} {h c k o a x : Int} (hk : 0 ≤ k) (hx : l[((h + k) % (l.length : Int)).toNat]? = some x) (hne : x ≠ c) (ho : o = a + cyc l h c k.toNat) : o = a + cyc l h c (k + 1).toNat := by
  rw [cyc_succ hk hx, if_neg hne, ho]; omega
def srvW (l : List Int) (h t : Int) : (Int × Int × Int) × Int := if okW l = false then ((0, 0, 0), 20) else if h < 0 ∨ (l.length : Int) ≤ h ∨ t < 0 then ((0, 0, 0), 1) else ((srv l h t 0, srv l h t 1, srv l h t 2), 0)

theorem fn27 (b nil capd : Bool) (l : List Int) (hl : (l.length : Int) ≤ 4611686018427387904) (hand turns : Int) (hh : hand ≤ 9223372036854775807) (ht : turns ≤ 9223372036854775807) : PureC pg an 27 [.one (sv NI b nil capd l), .one (vi hand), .one (vi turns)] [.agg [vi (srvW l hand turns).1.1, vi (srvW l hand turns).1.2.1, vi (srvW l hand turns).1.2.2], .one (vi (srvW l hand turns).2)] := by
  refine Runs.of (fn := Try.f27) Try.func27 rfl (by kernel_rfl) [(0, .y (.one (sv NI b nil capd l))), (1, xi hand), (2, xi turns)] (by kernel_rfl) ?_
  refine Wp.regionSeq [] [(0, .y (.one (sv NI b nil capd l))), (1, xi hand), (2, xi turns), (6, .y (.one (.ptr 0 0)))] [.obj [vi 0, vi 0, vi 0]]
    (cast trivial (by kernel_rfl)) (by kernel_rfl) ?_
  refine Wp.regionSeq [] [(0, .y (.one (sv NI b nil capd l))), (1, xi hand), (2, xi turns), (6, .y (.one (.ptr 0 0))), (8, .y (.one (.ptr 1 0)))] [.obj [vi 0, vi 0, vi 0], .obj [vi 0, vi 0, vi 0]]
    (cast trivial (by kernel_rfl)) (by kernel_rfl) ?_
  refine Wp.seq ?_
  rcases Bool.eq_false_or_eq_true ((okW l)) with c1 | c1
  ·
    have hkz2 := okW_len c1
    refine Wp.regionSeq [(1, xi 0, [.obj [vi 0, vi 0, vi 0], .obj [vi 0, vi 0, vi 0]])] [(0, .y (.one (sv NI b nil capd l))), (1, xi hand), (2, xi turns), (6, .y (.one (.ptr 0 0))), (8, .y (.one (.ptr 1 0))), (9, xi 0)] [.obj [vi 0, vi 0, vi 0], .obj [vi 0, vi 0, vi 0]]
      (cast (And.intro (ob_pure (P := pg) (A := an) (H := [.obj [vi 0, vi 0, vi 0], .obj [vi 0, vi 0, vi 0]]) (g := 13) (vals := [.y (.one (sv NI b nil capd l))]) (xs0 := [.one (sv NI b nil capd l)]) (xs1 := [.one (sv NI b nil capd l)]) (res := [.one (vi 0)]) (ats := #[]) (ty := 0) (v := xi 0) [.tmp 0] (by kernel_rfl) (by kernel_rfl) (by kernel_rfl) (by have := fn13 b nil capd l (by omega); rw [c1] at this; exact this) (by kernel_rfl)) trivial) (by kernel_rfl)) (by kernel_rfl) ?_
    refine Wp.regionSeq [] [(0, .y (.one (sv NI b nil capd l))), (1, xi hand), (2, xi turns), (6, .y (.one (.ptr 0 0))), (8, .y (.one (.ptr 1 0))), (9, xi 0), (16, xb false)] [.obj [vi 0, vi 0, vi 0], .obj [vi 0, vi 0, vi 0]]
      (cast trivial (by kernel_rfl)) (by kernel_rfl) ?_
    refine Wp.condF (by kernel_rfl) ?_
    refine Wp.skip ?_
    refine Wp.seq ?_
    by_cases c3 : (hand : Int) < 0
    ·
      refine Wp.regionSeq [(1, xb true, [.obj [vi 0, vi 0, vi 0], .obj [vi 0, vi 0, vi 0]])] [(0, .y (.one (sv NI b nil capd l))), (1, xi hand), (2, xi turns), (6, .y (.one (.ptr 0 0))), (8, .y (.one (.ptr 1 0))), (30, xb true)] [.obj [vi 0, vi 0, vi 0], .obj [vi 0, vi 0, vi 0]]
        (cast (And.intro (ob_raw (P := pg) (A := an) (vals := [xi hand, xi 0]) (H := [.obj [vi 0, vi 0, vi 0], .obj [vi 0, vi 0, vi 0]]) (op := .binOp .lss 3 (.tmp 0) (.tmp 1) 3) (ty := 0) (r := xb (decide ((hand : Int) < 0))) (v := xb true) (by kernel_rfl) (congrArg (fun z => xb z) (decide_eq_true (by omega)))) trivial) (by kernel_rfl)) (by kernel_rfl) ?_
      refine Wp.condT (by kernel_rfl) ?_
      refine Wp.regionSeq [] [(6, .y (.one (.ptr 0 0))), (7, xi 1)] [.obj [vi 0, vi 0, vi 0], .obj [vi 0, vi 0, vi 0]]
        (cast trivial (by kernel_rfl)) (by kernel_rfl) ?_
      refine Wp.ret ?_
      exact ⟨Or.inr rfl, [.agg [vi 0, vi 0, vi 0], .one (vi 1)], by kernel_rfl, (by have hp : srvW l hand turns = ((0, 0, 0), 1) := by { rw [srvW, c1, if_neg (by decide), if_pos (by omega)] }; rw [hp]; rfl)⟩
    ·
      by_cases c4 : ((l.length : Int) : Int) ≤ hand
      ·
        refine Wp.regionSeq [(1, xb false, [.obj [vi 0, vi 0, vi 0], .obj [vi 0, vi 0, vi 0]]), (6, xb true, [.obj [vi 0, vi 0, vi 0], .obj [vi 0, vi 0, vi 0]])] [(0, .y (.one (sv NI b nil capd l))), (1, xi hand), (2, xi turns), (6, .y (.one (.ptr 0 0))), (8, .y (.one (.ptr 1 0))), (30, xb true)] [.obj [vi 0, vi 0, vi 0], .obj [vi 0, vi 0, vi 0]]
          (cast (And.intro (ob_raw (P := pg) (A := an) (vals := [xi hand, xi 0]) (H := [.obj [vi 0, vi 0, vi 0], .obj [vi 0, vi 0, vi 0]]) (op := .binOp .lss 3 (.tmp 0) (.tmp 1) 3) (ty := 0) (r := xb (decide ((hand : Int) < 0))) (v := xb false) (by kernel_rfl) (congrArg (fun z => xb z) (decide_eq_false (by omega)))) (And.intro (ob_raw (P := pg) (A := an) (vals := [xi hand, xi (l.length : Int)]) (H := [.obj [vi 0, vi 0, vi 0], .obj [vi 0, vi 0, vi 0]]) (op := .binOp .geq 3 (.tmp 0) (.tmp 1) 3) (ty := 0) (r := xb (decide ((hand : Int) ≥ (l.length : Int)))) (v := xb true) (by kernel_rfl) (congrArg (fun z => xb z) (decide_eq_true (by omega)))) trivial)) (by kernel_rfl)) (by kernel_rfl) ?_
        refine Wp.condT (by kernel_rfl) ?_
        refine Wp.regionSeq [] [(6, .y (.one (.ptr 0 0))), (7, xi 1)] [.obj [vi 0, vi 0, vi 0], .obj [vi 0, vi 0, vi 0]]
          (cast trivial (by kernel_rfl)) (by kernel_rfl) ?_
        refine Wp.ret ?_
        exact ⟨Or.inr rfl, [.agg [vi 0, vi 0, vi 0], .one (vi 1)], by kernel_rfl, (by have hp : srvW l hand turns = ((0, 0, 0), 1) := by { rw [srvW, c1, if_neg (by decide), if_pos (by omega)] }; rw [hp]; rfl)⟩
      ·
        by_cases c5 : (turns : Int) < 0
        ·
          refine Wp.regionSeq [(1, xb false, [.obj [vi 0, vi 0, vi 0], .obj [vi 0, vi 0, vi 0]]), (6, xb false, [.obj [vi 0, vi 0, vi 0], .obj [vi 0, vi 0, vi 0]]), (10, xb true, [.obj [vi 0, vi 0, vi 0], .obj [vi 0, vi 0, vi 0]])] [(0, .y (.one (sv NI b nil capd l))), (1, xi hand), (2, xi turns), (6, .y (.one (.ptr 0 0))), (8, .y (.one (.ptr 1 0))), (30, xb true)] [.obj [vi 0, vi 0, vi 0], .obj [vi 0, vi 0, vi 0]]
            (cast (And.intro (ob_raw (P := pg) (A := an) (vals := [xi hand, xi 0]) (H := [.obj [vi 0, vi 0, vi 0], .obj [vi 0, vi 0, vi 0]]) (op := .binOp .lss 3 (.tmp 0) (.tmp 1) 3) (ty := 0) (r := xb (decide ((hand : Int) < 0))) (v := xb false) (by kernel_rfl) (congrArg (fun z => xb z) (decide_eq_false (by omega)))) (And.intro (ob_raw (P := pg) (A := an) (vals := [xi hand, xi (l.length : Int)]) (H := [.obj [vi 0, vi 0, vi 0], .obj [vi 0, vi 0, vi 0]]) (op := .binOp .geq 3 (.tmp 0) (.tmp 1) 3) (ty := 0) (r := xb (decide ((hand : Int) ≥ (l.length : Int)))) (v := xb false) (by kernel_rfl) (congrArg (fun z => xb z) (decide_eq_false (by omega)))) (And.intro (ob_raw (P := pg) (A := an) (vals := [xi turns, xi 0]) (H := [.obj [vi 0, vi 0, vi 0], .obj [vi 0, vi 0, vi 0]]) (op := .binOp .lss 3 (.tmp 0) (.tmp 1) 3) (ty := 0) (r := xb (decide ((turns : Int) < 0))) (v := xb true) (by kernel_rfl) (congrArg (fun z => xb z) (decide_eq_true (by omega)))) trivial))) (by kernel_rfl)) (by kernel_rfl) ?_
          refine Wp.condT (by kernel_rfl) ?_
          refine Wp.regionSeq [] [(6, .y (.one (.ptr 0 0))), (7, xi 1)] [.obj [vi 0, vi 0, vi 0], .obj [vi 0, vi 0, vi 0]]
            (cast trivial (by kernel_rfl)) (by kernel_rfl) ?_
          refine Wp.ret ?_
          exact ⟨Or.inr rfl, [.agg [vi 0, vi 0, vi 0], .one (vi 1)], by kernel_rfl, (by have hp : srvW l hand turns = ((0, 0, 0), 1) := by { rw [srvW, c1, if_neg (by decide), if_pos (by omega)] }; rw [hp]; rfl)⟩
        ·
          refine Wp.regionSeq [(1, xb false, [.obj [vi 0, vi 0, vi 0], .obj [vi 0, vi 0, vi 0]]), (6, xb false, [.obj [vi 0, vi 0, vi 0], .obj [vi 0, vi 0, vi 0]]), (10, xb false, [.obj [vi 0, vi 0, vi 0], .obj [vi 0, vi 0, vi 0]])] [(0, .y (.one (sv NI b nil capd l))), (1, xi hand), (2, xi turns), (6, .y (.one (.ptr 0 0))), (8, .y (.one (.ptr 1 0))), (30, xb false)] [.obj [vi 0, vi 0, vi 0], .obj [vi 0, vi 0, vi 0]]
            (cast (And.intro (ob_raw (P := pg) (A := an) (vals := [xi hand, xi 0]) (H := [.obj [vi 0, vi 0, vi 0], .obj [vi 0, vi 0, vi 0]]) (op := .binOp .lss 3 (.tmp 0) (.tmp 1) 3) (ty := 0) (r := xb (decide ((hand : Int) < 0))) (v := xb false) (by kernel_rfl) (congrArg (fun z => xb z) (decide_eq_false (by omega)))) (And.intro (ob_raw (P := pg) (A := an) (vals := [xi hand, xi (l.length : Int)]) (H := [.obj [vi 0, vi 0, vi 0], .obj [vi 0, vi 0, vi 0]]) (op := .binOp .geq 3 (.tmp 0) (.tmp 1) 3) (ty := 0) (r := xb (decide ((hand : Int) ≥ (l.length : Int)))) (v := xb false) (by kernel_rfl) (congrArg (fun z => xb z) (decide_eq_false (by omega)))) (And.intro (ob_raw (P := pg) (A := an) (vals := [xi turns, xi 0]) (H := [.obj [vi 0, vi 0, vi 0], .obj [vi 0, vi 0, vi 0]]) (op := .binOp .lss 3 (.tmp 0) (.tmp 1) 3) (ty := 0) (r := xb (decide ((turns : Int) < 0))) (v := xb false) (by kernel_rfl) (congrArg (fun z => xb z) (decide_eq_false (by omega)))) trivial))) (by kernel_rfl)) (by kernel_rfl) ?_
          refine Wp.condF (by kernel_rfl) ?_
          refine Wp.skip ?_
          refine Wp.seq ?_
          refine Wp.regionSeq [] [(0, .y (.one (sv NI b nil capd l))), (1, xi hand), (2, xi turns), (6, .y (.one (.ptr 0 0))), (8, .y (.one (.ptr 1 0))), (32, .y (.one (sv NI b nil capd l))), (33, xi (l.length : Int)), (34, xi 0)] [.obj [vi 0, vi 0, vi 0], .obj [vi 0, vi 0, vi 0]]
            (cast trivial (by kernel_rfl)) (by kernel_rfl) ?_
          refine Wp.block ?_
          refine Wp.loop (T := Int × Int × Int × Int) (fun (t : Int × Int × Int × Int) => match t with | (ix, o0, o1, o2) => (((l.length : Int) - ix).toNat : Nat)) (fun (t : Int × Int × Int × Int) => match t with | (ix, o0, o1, o2) => ([(0, .y (.one (sv NI b nil capd l))), (1, xi hand), (2, xi turns), (6, .y (.one (.ptr 0 0))), (8, .y (.one (.ptr 1 0))), (32, .y (.one (sv NI b nil capd l))), (33, xi (l.length : Int)), (34, xi ix)] : Env)) (fun (t : Int × Int × Int × Int) => match t with | (ix, o0, o1, o2) => ([.obj [vi 0, vi 0, vi 0], .obj [vi o0, vi o1, vi o2]] : Go.Lg.Heap))
            (fun (t : Int × Int × Int × Int) => match t with | (ix, o0, o1, o2) => (0 ≤ ix ∧ ix ≤ (l.length : Int) ∧ o0 = turns / (l.length : Int) * cnt 0 (l.take ix.toNat) ∧ o1 = turns / (l.length : Int) * cnt 1 (l.take ix.toNat) ∧ o2 = turns / (l.length : Int) * cnt 2 (l.take ix.toNat) : Prop)) (0, 0, 0, 0) (by kernel_rfl) (by exact ⟨by omega, by omega, by simp [cnt], by simp [cnt], by simp [cnt]⟩) ?_
          rintro ⟨ix, o0, o1, o2⟩ ⟨i1, i2, j0, j1, j2⟩
          show Wp _ _ _ _ [(0, .y (.one (sv NI b nil capd l))), (1, xi hand), (2, xi turns), (6, .y (.one (.ptr 0 0))), (8, .y (.one (.ptr 1 0))), (32, .y (.one (sv NI b nil capd l))), (33, xi (l.length : Int)), (34, xi ix)] [.obj [vi 0, vi 0, vi 0], .obj [vi o0, vi o1, vi o2]] _
          by_cases c6 : (ix : Int) < (l.length : Int)
          ·
            refine Wp.regionSeq [(0, xb true, [.obj [vi 0, vi 0, vi 0], .obj [vi o0, vi o1, vi o2]])] [(0, .y (.one (sv NI b nil capd l))), (1, xi hand), (2, xi turns), (6, .y (.one (.ptr 0 0))), (8, .y (.one (.ptr 1 0))), (32, .y (.one (sv NI b nil capd l))), (33, xi (l.length : Int)), (34, xi ix), (35, xb true)] [.obj [vi 0, vi 0, vi 0], .obj [vi o0, vi o1, vi o2]]
              (cast (And.intro (ob_raw (P := pg) (A := an) (vals := [xi ix, xi (l.length : Int)]) (H := [.obj [vi 0, vi 0, vi 0], .obj [vi o0, vi o1, vi o2]]) (op := .binOp .lss 3 (.tmp 0) (.tmp 1) 3) (ty := 0) (r := xb (decide ((ix : Int) < (l.length : Int)))) (v := xb true) (by kernel_rfl) (congrArg (fun z => xb z) (decide_eq_true (by omega)))) trivial) (by kernel_rfl)) (by kernel_rfl) ?_
            refine Wp.seq ?_
            refine Wp.condT (by kernel_rfl) ?_
            refine Wp.skip ?_
            refine Wp.seq ?_
            refine Wp.block ?_
            obtain ⟨x7, hx7⟩ : ∃ x, l[(ix : Int).toNat]? = some x := get_of (by omega)
            have hez8 := okW_elem c1 hx7
            have hbz9 := srv_bd (l := l) (t := turns) (i := ix) (by omega) (by omega) (by omega) j0
            have hbz10 := srv_bd (l := l) (t := turns) (i := ix) (by omega) (by omega) (by omega) j1
            have hbz11 := srv_bd (l := l) (t := turns) (i := ix) (by omega) (by omega) (by omega) j2
            refine Wp.regionSeq [(0, .y (.one (.rd ([vi x7] ++ (l.drop ((ix : Int).toNat + 1)).flatMap (enc NI)))), [.obj [vi 0, vi 0, vi 0], .obj [vi o0, vi o1, vi o2]])] [(0, .y (.one (sv NI b nil capd l))), (1, xi hand), (2, xi turns), (6, .y (.one (.ptr 0 0))), (8, .y (.one (.ptr 1 0))), (11, xi x7), (32, .y (.one (sv NI b nil capd l))), (33, xi (l.length : Int)), (34, xi ix)] [.obj [vi 0, vi 0, vi 0], .obj [vi o0, vi o1, vi o2]]
              (cast (And.intro (ob_index (P := pg) (A := an) (H := [.obj [vi 0, vi 0, vi 0], .obj [vi o0, vi o1, vi o2]]) (s := NI) (b := b) (nil := nil) (capd := capd) (t := 22) (el := 3) (i := ix) Try.underlying22 (by kernel_rfl) (by kernel_rfl) (by omega) hx7) trivial) (by kernel_rfl)) (by kernel_rfl) ?_
            rcases (show x7 = 0 ∨ x7 = 1 ∨ x7 = 2 from by omega) with rfl | rfl | rfl
            ·
              have hqz12 := div_is (a := turns) (b := (l.length : Int)) (by omega) (by omega)
              refine Wp.region [(6, xi (turns / (l.length : Int)), [.obj [vi 0, vi 0, vi 0], .obj [vi o0, vi o1, vi o2]]), (7, xi (o0 + (turns / (l.length : Int))), [.obj [vi 0, vi 0, vi 0], .obj [vi o0, vi o1, vi o2]])] [(0, .y (.one (sv NI b nil capd l))), (1, xi hand), (2, xi turns), (6, .y (.one (.ptr 0 0))), (8, .y (.one (.ptr 1 0))), (32, .y (.one (sv NI b nil capd l))), (33, xi (l.length : Int)), (34, xi ix)] [.obj [vi 0, vi 0, vi 0], .obj [vi (o0 + (turns / (l.length : Int))), vi o1, vi o2]]
                (cast (And.intro (ob_quo (P := pg) (A := an) (H := [.obj [vi 0, vi 0, vi 0], .obj [vi o0, vi o1, vi o2]]) (t := 3) (u := 3) (ty := 0) (a := turns) (b := (l.length : Int)) (by omega) (by omega) (by omega)) (And.intro (ob_raw (P := pg) (A := an) (vals := [xi o0, xi (turns / (l.length : Int))]) (H := [.obj [vi 0, vi 0, vi 0], .obj [vi o0, vi o1, vi o2]]) (op := .binOp .add 3 (.tmp 0) (.tmp 1) 3) (ty := 0) (r := xi (IntKind.wrap .i64 (o0 + (turns / (l.length : Int))))) (v := xi (o0 + (turns / (l.length : Int)))) (by kernel_rfl) (congrArg (fun z => xi z) ((wrap64 (by omega)).trans (by omega)))) trivial)) (by kernel_rfl)) (by kernel_rfl) ?_
              refine Wp.region [(0, xi (ix + 1), [.obj [vi 0, vi 0, vi 0], .obj [vi (o0 + (turns / (l.length : Int))), vi o1, vi o2]])] [(0, .y (.one (sv NI b nil capd l))), (1, xi hand), (2, xi turns), (6, .y (.one (.ptr 0 0))), (8, .y (.one (.ptr 1 0))), (32, .y (.one (sv NI b nil capd l))), (33, xi (l.length : Int)), (34, xi (ix + 1))] [.obj [vi 0, vi 0, vi 0], .obj [vi (o0 + (turns / (l.length : Int))), vi o1, vi o2]]
                (cast (And.intro (ob_raw (P := pg) (A := an) (vals := [xi ix, xi 1]) (H := [.obj [vi 0, vi 0, vi 0], .obj [vi (o0 + (turns / (l.length : Int))), vi o1, vi o2]]) (op := .binOp .add 3 (.tmp 0) (.tmp 1) 3) (ty := 0) (r := xi (IntKind.wrap .i64 (ix + 1))) (v := xi (ix + 1)) (by kernel_rfl) (congrArg (fun z => xi z) ((wrap64 (by omega)).trans (by omega)))) trivial) (by kernel_rfl)) (by kernel_rfl) ?_
              exact ⟨((ix + 1), (o0 + (turns / (l.length : Int))), o1, o2), by kernel_rfl, (by exact ⟨by omega, by omega, cnt_hit (by omega) hx7 j0, cnt_miss (by omega) hx7 (by decide) j1, cnt_miss (by omega) hx7 (by decide) j2⟩), (by show (_ : Nat) < _; simp only []; omega)⟩
            ·
              have hqz14 := div_is (a := turns) (b := (l.length : Int)) (by omega) (by omega)
              refine Wp.region [(6, xi (turns / (l.length : Int)), [.obj [vi 0, vi 0, vi 0], .obj [vi o0, vi o1, vi o2]]), (7, xi (o1 + (turns / (l.length : Int))), [.obj [vi 0, vi 0, vi 0], .obj [vi o0, vi o1, vi o2]])] [(0, .y (.one (sv NI b nil capd l))), (1, xi hand), (2, xi turns), (6, .y (.one (.ptr 0 0))), (8, .y (.one (.ptr 1 0))), (32, .y (.one (sv NI b nil capd l))), (33, xi (l.length : Int)), (34, xi ix)] [.obj [vi 0, vi 0, vi 0], .obj [vi o0, vi (o1 + (turns / (l.length : Int))), vi o2]]
                (cast (And.intro (ob_quo (P := pg) (A := an) (H := [.obj [vi 0, vi 0, vi 0], .obj [vi o0, vi o1, vi o2]]) (t := 3) (u := 3) (ty := 0) (a := turns) (b := (l.length : Int)) (by omega) (by omega) (by omega)) (And.intro (ob_raw (P := pg) (A := an) (vals := [xi o1, xi (turns / (l.length : Int))]) (H := [.obj [vi 0, vi 0, vi 0], .obj [vi o0, vi o1, vi o2]]) (op := .binOp .add 3 (.tmp 0) (.tmp 1) 3) (ty := 0) (r := xi (IntKind.wrap .i64 (o1 + (turns / (l.length : Int))))) (v := xi (o1 + (turns / (l.length : Int)))) (by kernel_rfl) (congrArg (fun z => xi z) ((wrap64 (by omega)).trans (by omega)))) trivial)) (by kernel_rfl)) (by kernel_rfl) ?_
              refine Wp.region [(0, xi (ix + 1), [.obj [vi 0, vi 0, vi 0], .obj [vi o0, vi (o1 + (turns / (l.length : Int))), vi o2]])] [(0, .y (.one (sv NI b nil capd l))), (1, xi hand), (2, xi turns), (6, .y (.one (.ptr 0 0))), (8, .y (.one (.ptr 1 0))), (32, .y (.one (sv NI b nil capd l))), (33, xi (l.length : Int)), (34, xi (ix + 1))] [.obj [vi 0, vi 0, vi 0], .obj [vi o0, vi (o1 + (turns / (l.length : Int))), vi o2]]
                (cast (And.intro (ob_raw (P := pg) (A := an) (vals := [xi ix, xi 1]) (H := [.obj [vi 0, vi 0, vi 0], .obj [vi o0, vi (o1 + (turns / (l.length : Int))), vi o2]]) (op := .binOp .add 3 (.tmp 0) (.tmp 1) 3) (ty := 0) (r := xi (IntKind.wrap .i64 (ix + 1))) (v := xi (ix + 1)) (by kernel_rfl) (congrArg (fun z => xi z) ((wrap64 (by omega)).trans (by omega)))) trivial) (by kernel_rfl)) (by kernel_rfl) ?_
              exact ⟨((ix + 1), o0, (o1 + (turns / (l.length : Int))), o2), by kernel_rfl, (by exact ⟨by omega, by omega, cnt_miss (by omega) hx7 (by decide) j0, cnt_hit (by omega) hx7 j1, cnt_miss (by omega) hx7 (by decide) j2⟩), (by show (_ : Nat) < _; simp only []; omega)⟩
            ·
              have hqz16 := div_is (a := turns) (b := (l.length : Int)) (by omega) (by omega)
              refine Wp.region [(6, xi (turns / (l.length : Int)), [.obj [vi 0, vi 0, vi 0], .obj [vi o0, vi o1, vi o2]]), (7, xi (o2 + (turns / (l.length : Int))), [.obj [vi 0, vi 0, vi 0], .obj [vi o0, vi o1, vi o2]])] [(0, .y (.one (sv NI b nil capd l))), (1, xi hand), (2, xi turns), (6, .y (.one (.ptr 0 0))), (8, .y (.one (.ptr 1 0))), (32, .y (.one (sv NI b nil capd l))), (33, xi (l.length : Int)), (34, xi ix)] [.obj [vi 0, vi 0, vi 0], .obj [vi o0, vi o1, vi (o2 + (turns / (l.length : Int)))]]
                (cast (And.intro (ob_quo (P := pg) (A := an) (H := [.obj [vi 0, vi 0, vi 0], .obj [vi o0, vi o1, vi o2]]) (t := 3) (u := 3) (ty := 0) (a := turns) (b := (l.length : Int)) (by omega) (by omega) (by omega)) (And.intro (ob_raw (P := pg) (A := an) (vals := [xi o2, xi (turns / (l.length : Int))]) (H := [.obj [vi 0, vi 0, vi 0], .obj [vi o0, vi o1, vi o2]]) (op := .binOp .add 3 (.tmp 0) (.tmp 1) 3) (ty := 0) (r := xi (IntKind.wrap .i64 (o2 + (turns / (l.length : Int))))) (v := xi (o2 + (turns / (l.length : Int)))) (by kernel_rfl) (congrArg (fun z => xi z) ((wrap64 (by omega)).trans (by omega)))) trivial)) (by kernel_rfl)) (by kernel_rfl) ?_
              refine Wp.region [(0, xi (ix + 1), [.obj [vi 0, vi 0, vi 0], .obj [vi o0, vi o1, vi (o2 + (turns / (l.length : Int)))]])] [(0, .y (.one (sv NI b nil capd l))), (1, xi hand), (2, xi turns), (6, .y (.one (.ptr 0 0))), (8, .y (.one (.ptr 1 0))), (32, .y (.one (sv NI b nil capd l))), (33, xi (l.length : Int)), (34, xi (ix + 1))] [.obj [vi 0, vi 0, vi 0], .obj [vi o0, vi o1, vi (o2 + (turns / (l.length : Int)))]]
                (cast (And.intro (ob_raw (P := pg) (A := an) (vals := [xi ix, xi 1]) (H := [.obj [vi 0, vi 0, vi 0], .obj [vi o0, vi o1, vi (o2 + (turns / (l.length : Int)))]]) (op := .binOp .add 3 (.tmp 0) (.tmp 1) 3) (ty := 0) (r := xi (IntKind.wrap .i64 (ix + 1))) (v := xi (ix + 1)) (by kernel_rfl) (congrArg (fun z => xi z) ((wrap64 (by omega)).trans (by omega)))) trivial) (by kernel_rfl)) (by kernel_rfl) ?_
              exact ⟨((ix + 1), o0, o1, (o2 + (turns / (l.length : Int)))), by kernel_rfl, (by exact ⟨by omega, by omega, cnt_miss (by omega) hx7 (by decide) j0, cnt_miss (by omega) hx7 (by decide) j1, cnt_hit (by omega) hx7 j2⟩), (by show (_ : Nat) < _; simp only []; omega)⟩
          ·
            refine Wp.regionSeq [(0, xb false, [.obj [vi 0, vi 0, vi 0], .obj [vi o0, vi o1, vi o2]])] [(0, .y (.one (sv NI b nil capd l))), (1, xi hand), (2, xi turns), (6, .y (.one (.ptr 0 0))), (8, .y (.one (.ptr 1 0))), (32, .y (.one (sv NI b nil capd l))), (33, xi (l.length : Int)), (34, xi ix), (35, xb false)] [.obj [vi 0, vi 0, vi 0], .obj [vi o0, vi o1, vi o2]]
              (cast (And.intro (ob_raw (P := pg) (A := an) (vals := [xi ix, xi (l.length : Int)]) (H := [.obj [vi 0, vi 0, vi 0], .obj [vi o0, vi o1, vi o2]]) (op := .binOp .lss 3 (.tmp 0) (.tmp 1) 3) (ty := 0) (r := xb (decide ((ix : Int) < (l.length : Int)))) (v := xb false) (by kernel_rfl) (congrArg (fun z => xb z) (decide_eq_false (by omega)))) trivial) (by kernel_rfl)) (by kernel_rfl) ?_
            refine Wp.seq ?_
            refine Wp.condF (by kernel_rfl) ?_
            refine Wp.exit ?_
            refine Eq.mpr (if_pos rfl) ?_
            refine Wp.seq ?_
            have hmz18 := mod_is (a := turns) (b := (l.length : Int)) (by omega) (by omega)
            refine Wp.regionSeq [(3, xi (turns % (l.length : Int)), [.obj [vi 0, vi 0, vi 0], .obj [vi o0, vi o1, vi o2]])] [(0, .y (.one (sv NI b nil capd l))), (1, xi hand), (6, .y (.one (.ptr 0 0))), (8, .y (.one (.ptr 1 0))), (51, xi (turns % (l.length : Int))), (52, xi 0)] [.obj [vi 0, vi 0, vi 0], .obj [vi o0, vi o1, vi o2]]
              (cast (And.intro (ob_rem (P := pg) (A := an) (H := [.obj [vi 0, vi 0, vi 0], .obj [vi o0, vi o1, vi o2]]) (t := 3) (u := 3) (ty := 0) (a := turns) (b := (l.length : Int)) (by omega) (by omega)) trivial) (by kernel_rfl)) (by kernel_rfl) ?_
            refine Wp.block ?_
            refine Wp.loop (T := Int × Int × Int × Int) (fun (t : Int × Int × Int × Int) => match t with | (kx, o0, o1, o2) => ((turns % (l.length : Int) - kx).toNat : Nat)) (fun (t : Int × Int × Int × Int) => match t with | (kx, o0, o1, o2) => ([(0, .y (.one (sv NI b nil capd l))), (1, xi hand), (6, .y (.one (.ptr 0 0))), (8, .y (.one (.ptr 1 0))), (51, xi (turns % (l.length : Int))), (52, xi kx)] : Env)) (fun (t : Int × Int × Int × Int) => match t with | (kx, o0, o1, o2) => ([.obj [vi 0, vi 0, vi 0], .obj [vi o0, vi o1, vi o2]] : Go.Lg.Heap))
              (fun (t : Int × Int × Int × Int) => match t with | (kx, o0, o1, o2) => (0 ≤ kx ∧ kx ≤ turns % (l.length : Int) ∧ o0 = turns / (l.length : Int) * cnt 0 l + cyc l hand 0 kx.toNat ∧ o1 = turns / (l.length : Int) * cnt 1 l + cyc l hand 1 kx.toNat ∧ o2 = turns / (l.length : Int) * cnt 2 l + cyc l hand 2 kx.toNat : Prop)) (0, o0, o1, o2) (by kernel_rfl) (by rw [show ix.toNat = l.length by omega, List.take_length] at j0 j1 j2; exact ⟨by omega, by omega, by rw [j0]; simp [cyc], by rw [j1]; simp [cyc], by rw [j2]; simp [cyc]⟩) ?_
            rintro ⟨kx, o0, o1, o2⟩ ⟨i1, i2, j0, j1, j2⟩
            show Wp _ _ _ _ [(0, .y (.one (sv NI b nil capd l))), (1, xi hand), (6, .y (.one (.ptr 0 0))), (8, .y (.one (.ptr 1 0))), (51, xi (turns % (l.length : Int))), (52, xi kx)] [.obj [vi 0, vi 0, vi 0], .obj [vi o0, vi o1, vi o2]] _
            by_cases c20 : (kx : Int) < (turns % (l.length : Int))
            ·
              refine Wp.regionSeq [(0, xb true, [.obj [vi 0, vi 0, vi 0], .obj [vi o0, vi o1, vi o2]])] [(0, .y (.one (sv NI b nil capd l))), (1, xi hand), (6, .y (.one (.ptr 0 0))), (8, .y (.one (.ptr 1 0))), (51, xi (turns % (l.length : Int))), (52, xi kx), (53, xb true)] [.obj [vi 0, vi 0, vi 0], .obj [vi o0, vi o1, vi o2]]
                (cast (And.intro (ob_raw (P := pg) (A := an) (vals := [xi kx, xi (turns % (l.length : Int))]) (H := [.obj [vi 0, vi 0, vi 0], .obj [vi o0, vi o1, vi o2]]) (op := .binOp .lss 3 (.tmp 0) (.tmp 1) 3) (ty := 0) (r := xb (decide ((kx : Int) < (turns % (l.length : Int))))) (v := xb true) (by kernel_rfl) (congrArg (fun z => xb z) (decide_eq_true (by omega)))) trivial) (by kernel_rfl)) (by kernel_rfl) ?_
              refine Wp.seq ?_
              refine Wp.condT (by kernel_rfl) ?_
              refine Wp.skip ?_
              refine Wp.seq ?_
              refine Wp.block ?_
              refine Wp.regionSeq [] [(0, .y (.one (sv NI b nil capd l))), (1, xi hand), (6, .y (.one (.ptr 0 0))), (8, .y (.one (.ptr 1 0))), (12, xi kx), (51, xi (turns % (l.length : Int))), (52, xi kx)] [.obj [vi 0, vi 0, vi 0], .obj [vi o0, vi o1, vi o2]]
                (cast trivial (by kernel_rfl)) (by kernel_rfl) ?_
              have hmz21 := mod_is (a := (hand + kx)) (b := (l.length : Int)) (by omega) (by omega)
              obtain ⟨x23, hx23⟩ : ∃ x, l[(((hand + kx) % (l.length : Int)) : Int).toNat]? = some x := get_of (by omega)
              have hez24 := okW_elem c1 hx23
              have hbz25 := srv_bd2 (l := l) (t := turns) (k := kx) (hd := hand) (by omega) (by omega) (by omega) (by omega) j0
              have hbz26 := srv_bd2 (l := l) (t := turns) (k := kx) (hd := hand) (by omega) (by omega) (by omega) (by omega) j1
              have hbz27 := srv_bd2 (l := l) (t := turns) (k := kx) (hd := hand) (by omega) (by omega) (by omega) (by omega) j2
              rcases (show x23 = 0 ∨ x23 = 1 ∨ x23 = 2 from by omega) with rfl | rfl | rfl
              ·
                refine Wp.region [(3, xi (hand + kx), [.obj [vi 0, vi 0, vi 0], .obj [vi o0, vi o1, vi o2]]), (6, xi ((hand + kx) % (l.length : Int)), [.obj [vi 0, vi 0, vi 0], .obj [vi o0, vi o1, vi o2]]), (7, .y (.one (.rd ([vi 0] ++ (l.drop ((((hand + kx) % (l.length : Int)) : Int).toNat + 1)).flatMap (enc NI)))), [.obj [vi 0, vi 0, vi 0], .obj [vi o0, vi o1, vi o2]]), (11, xi (o0 + 1), [.obj [vi 0, vi 0, vi 0], .obj [vi o0, vi o1, vi o2]])] [(0, .y (.one (sv NI b nil capd l))), (1, xi hand), (6, .y (.one (.ptr 0 0))), (8, .y (.one (.ptr 1 0))), (51, xi (turns % (l.length : Int))), (52, xi kx)] [.obj [vi 0, vi 0, vi 0], .obj [vi (o0 + 1), vi o1, vi o2]]
                  (cast (And.intro (ob_raw (P := pg) (A := an) (vals := [xi hand, xi kx]) (H := [.obj [vi 0, vi 0, vi 0], .obj [vi o0, vi o1, vi o2]]) (op := .binOp .add 3 (.tmp 0) (.tmp 1) 3) (ty := 0) (r := xi (IntKind.wrap .i64 (hand + kx))) (v := xi (hand + kx)) (by kernel_rfl) (congrArg (fun z => xi z) ((wrap64 (by omega)).trans (by omega)))) (And.intro (ob_rem (P := pg) (A := an) (H := [.obj [vi 0, vi 0, vi 0], .obj [vi o0, vi o1, vi o2]]) (t := 3) (u := 3) (ty := 0) (a := (hand + kx)) (b := (l.length : Int)) (by omega) (by omega)) (And.intro (ob_index (P := pg) (A := an) (H := [.obj [vi 0, vi 0, vi 0], .obj [vi o0, vi o1, vi o2]]) (s := NI) (b := b) (nil := nil) (capd := capd) (t := 22) (el := 3) (i := ((hand + kx) % (l.length : Int))) Try.underlying22 (by kernel_rfl) (by kernel_rfl) (by omega) hx23) (And.intro (ob_raw (P := pg) (A := an) (vals := [xi o0, xi 1]) (H := [.obj [vi 0, vi 0, vi 0], .obj [vi o0, vi o1, vi o2]]) (op := .binOp .add 3 (.tmp 0) (.tmp 1) 3) (ty := 0) (r := xi (IntKind.wrap .i64 (o0 + 1))) (v := xi (o0 + 1)) (by kernel_rfl) (congrArg (fun z => xi z) ((wrap64 (by omega)).trans (by omega)))) trivial)))) (by kernel_rfl)) (by kernel_rfl) ?_
                refine Wp.region [(0, xi (kx + 1), [.obj [vi 0, vi 0, vi 0], .obj [vi (o0 + 1), vi o1, vi o2]])] [(0, .y (.one (sv NI b nil capd l))), (1, xi hand), (6, .y (.one (.ptr 0 0))), (8, .y (.one (.ptr 1 0))), (51, xi (turns % (l.length : Int))), (52, xi (kx + 1))] [.obj [vi 0, vi 0, vi 0], .obj [vi (o0 + 1), vi o1, vi o2]]
                  (cast (And.intro (ob_raw (P := pg) (A := an) (vals := [xi kx, xi 1]) (H := [.obj [vi 0, vi 0, vi 0], .obj [vi (o0 + 1), vi o1, vi o2]]) (op := .binOp .add 3 (.tmp 0) (.tmp 1) 3) (ty := 0) (r := xi (IntKind.wrap .i64 (kx + 1))) (v := xi (kx + 1)) (by kernel_rfl) (congrArg (fun z => xi z) ((wrap64 (by omega)).trans (by omega)))) trivial) (by kernel_rfl)) (by kernel_rfl) ?_
                exact ⟨((kx + 1), (o0 + 1), o1, o2), by kernel_rfl, (by exact ⟨by omega, by omega, cyc_hit (by omega) hx23 j0, cyc_miss (by omega) hx23 (by decide) j1, cyc_miss (by omega) hx23 (by decide) j2⟩), (by show (_ : Nat) < _; simp only []; omega)⟩
              ·
                refine Wp.region [(3, xi (hand + kx), [.obj [vi 0, vi 0, vi 0], .obj [vi o0, vi o1, vi o2]]), (6, xi ((hand + kx) % (l.length : Int)), [.obj [vi 0, vi 0, vi 0], .obj [vi o0, vi o1, vi o2]]), (7, .y (.one (.rd ([vi 1] ++ (l.drop ((((hand + kx) % (l.length : Int)) : Int).toNat + 1)).flatMap (enc NI)))), [.obj [vi 0, vi 0, vi 0], .obj [vi o0, vi o1, vi o2]]), (11, xi (o1 + 1), [.obj [vi 0, vi 0, vi 0], .obj [vi o0, vi o1, vi o2]])] [(0, .y (.one (sv NI b nil capd l))), (1, xi hand), (6, .y (.one (.ptr 0 0))), (8, .y (.one (.ptr 1 0))), (51, xi (turns % (l.length : Int))), (52, xi kx)] [.obj [vi 0, vi 0, vi 0], .obj [vi o0, vi (o1 + 1), vi o2]]
                  (cast (And.intro (ob_raw (P := pg) (A := an) (vals := [xi hand, xi kx]) (H := [.obj [vi 0, vi 0, vi 0], .obj [vi o0, vi o1, vi o2]]) (op := .binOp .add 3 (.tmp 0) (.tmp 1) 3) (ty := 0) (r := xi (IntKind.wrap .i64 (hand + kx))) (v := xi (hand + kx)) (by kernel_rfl) (congrArg (fun z => xi z) ((wrap64 (by omega)).trans (by omega)))) (And.intro (ob_rem (P := pg) (A := an) (H := [.obj [vi 0, vi 0, vi 0], .obj [vi o0, vi o1, vi o2]]) (t := 3) (u := 3) (ty := 0) (a := (hand + kx)) (b := (l.length : Int)) (by omega) (by omega)) (And.intro (ob_index (P := pg) (A := an) (H := [.obj [vi 0, vi 0, vi 0], .obj [vi o0, vi o1, vi o2]]) (s := NI) (b := b) (nil := nil) (capd := capd) (t := 22) (el := 3) (i := ((hand + kx) % (l.length : Int))) Try.underlying22 (by kernel_rfl) (by kernel_rfl) (by omega) hx23) (And.intro (ob_raw (P := pg) (A := an) (vals := [xi o1, xi 1]) (H := [.obj [vi 0, vi 0, vi 0], .obj [vi o0, vi o1, vi o2]]) (op := .binOp .add 3 (.tmp 0) (.tmp 1) 3) (ty := 0) (r := xi (IntKind.wrap .i64 (o1 + 1))) (v := xi (o1 + 1)) (by kernel_rfl) (congrArg (fun z => xi z) ((wrap64 (by omega)).trans (by omega)))) trivial)))) (by kernel_rfl)) (by kernel_rfl) ?_
                refine Wp.region [(0, xi (kx + 1), [.obj [vi 0, vi 0, vi 0], .obj [vi o0, vi (o1 + 1), vi o2]])] [(0, .y (.one (sv NI b nil capd l))), (1, xi hand), (6, .y (.one (.ptr 0 0))), (8, .y (.one (.ptr 1 0))), (51, xi (turns % (l.length : Int))), (52, xi (kx + 1))] [.obj [vi 0, vi 0, vi 0], .obj [vi o0, vi (o1 + 1), vi o2]]
                  (cast (And.intro (ob_raw (P := pg) (A := an) (vals := [xi kx, xi 1]) (H := [.obj [vi 0, vi 0, vi 0], .obj [vi o0, vi (o1 + 1), vi o2]]) (op := .binOp .add 3 (.tmp 0) (.tmp 1) 3) (ty := 0) (r := xi (IntKind.wrap .i64 (kx + 1))) (v := xi (kx + 1)) (by kernel_rfl) (congrArg (fun z => xi z) ((wrap64 (by omega)).trans (by omega)))) trivial) (by kernel_rfl)) (by kernel_rfl) ?_
                exact ⟨((kx + 1), o0, (o1 + 1), o2), by kernel_rfl, (by exact ⟨by omega, by omega, cyc_miss (by omega) hx23 (by decide) j0, cyc_hit (by omega) hx23 j1, cyc_miss (by omega) hx23 (by decide) j2⟩), (by show (_ : Nat) < _; simp only []; omega)⟩
              ·
                refine Wp.region [(3, xi (hand + kx), [.obj [vi 0, vi 0, vi 0], .obj [vi o0, vi o1, vi o2]]), (6, xi ((hand + kx) % (l.length : Int)), [.obj [vi 0, vi 0, vi 0], .obj [vi o0, vi o1, vi o2]]), (7, .y (.one (.rd ([vi 2] ++ (l.drop ((((hand + kx) % (l.length : Int)) : Int).toNat + 1)).flatMap (enc NI)))), [.obj [vi 0, vi 0, vi 0], .obj [vi o0, vi o1, vi o2]]), (11, xi (o2 + 1), [.obj [vi 0, vi 0, vi 0], .obj [vi o0, vi o1, vi o2]])] [(0, .y (.one (sv NI b nil capd l))), (1, xi hand), (6, .y (.one (.ptr 0 0))), (8, .y (.one (.ptr 1 0))), (51, xi (turns % (l.length : Int))), (52, xi kx)] [.obj [vi 0, vi 0, vi 0], .obj [vi o0, vi o1, vi (o2 + 1)]]
                  (cast (And.intro (ob_raw (P := pg) (A := an) (vals := [xi hand, xi kx]) (H := [.obj [vi 0, vi 0, vi 0], .obj [vi o0, vi o1, vi o2]]) (op := .binOp .add 3 (.tmp 0) (.tmp 1) 3) (ty := 0) (r := xi (IntKind.wrap .i64 (hand + kx))) (v := xi (hand + kx)) (by kernel_rfl) (congrArg (fun z => xi z) ((wrap64 (by omega)).trans (by omega)))) (And.intro (ob_rem (P := pg) (A := an) (H := [.obj [vi 0, vi 0, vi 0], .obj [vi o0, vi o1, vi o2]]) (t := 3) (u := 3) (ty := 0) (a := (hand + kx)) (b := (l.length : Int)) (by omega) (by omega)) (And.intro (ob_index (P := pg) (A := an) (H := [.obj [vi 0, vi 0, vi 0], .obj [vi o0, vi o1, vi o2]]) (s := NI) (b := b) (nil := nil) (capd := capd) (t := 22) (el := 3) (i := ((hand + kx) % (l.length : Int))) Try.underlying22 (by kernel_rfl) (by kernel_rfl) (by omega) hx23) (And.intro (ob_raw (P := pg) (A := an) (vals := [xi o2, xi 1]) (H := [.obj [vi 0, vi 0, vi 0], .obj [vi o0, vi o1, vi o2]]) (op := .binOp .add 3 (.tmp 0) (.tmp 1) 3) (ty := 0) (r := xi (IntKind.wrap .i64 (o2 + 1))) (v := xi (o2 + 1)) (by kernel_rfl) (congrArg (fun z => xi z) ((wrap64 (by omega)).trans (by omega)))) trivial)))) (by kernel_rfl)) (by kernel_rfl) ?_
                refine Wp.region [(0, xi (kx + 1), [.obj [vi 0, vi 0, vi 0], .obj [vi o0, vi o1, vi (o2 + 1)]])] [(0, .y (.one (sv NI b nil capd l))), (1, xi hand), (6, .y (.one (.ptr 0 0))), (8, .y (.one (.ptr 1 0))), (51, xi (turns % (l.length : Int))), (52, xi (kx + 1))] [.obj [vi 0, vi 0, vi 0], .obj [vi o0, vi o1, vi (o2 + 1)]]
                  (cast (And.intro (ob_raw (P := pg) (A := an) (vals := [xi kx, xi 1]) (H := [.obj [vi 0, vi 0, vi 0], .obj [vi o0, vi o1, vi (o2 + 1)]]) (op := .binOp .add 3 (.tmp 0) (.tmp 1) 3) (ty := 0) (r := xi (IntKind.wrap .i64 (kx + 1))) (v := xi (kx + 1)) (by kernel_rfl) (congrArg (fun z => xi z) ((wrap64 (by omega)).trans (by omega)))) trivial) (by kernel_rfl)) (by kernel_rfl) ?_
                exact ⟨((kx + 1), o0, o1, (o2 + 1)), by kernel_rfl, (by exact ⟨by omega, by omega, cyc_miss (by omega) hx23 (by decide) j0, cyc_miss (by omega) hx23 (by decide) j1, cyc_hit (by omega) hx23 j2⟩), (by show (_ : Nat) < _; simp only []; omega)⟩
            ·
              refine Wp.regionSeq [(0, xb false, [.obj [vi 0, vi 0, vi 0], .obj [vi o0, vi o1, vi o2]])] [(0, .y (.one (sv NI b nil capd l))), (1, xi hand), (6, .y (.one (.ptr 0 0))), (8, .y (.one (.ptr 1 0))), (51, xi (turns % (l.length : Int))), (52, xi kx), (53, xb false)] [.obj [vi 0, vi 0, vi 0], .obj [vi o0, vi o1, vi o2]]
                (cast (And.intro (ob_raw (P := pg) (A := an) (vals := [xi kx, xi (turns % (l.length : Int))]) (H := [.obj [vi 0, vi 0, vi 0], .obj [vi o0, vi o1, vi o2]]) (op := .binOp .lss 3 (.tmp 0) (.tmp 1) 3) (ty := 0) (r := xb (decide ((kx : Int) < (turns % (l.length : Int))))) (v := xb false) (by kernel_rfl) (congrArg (fun z => xb z) (decide_eq_false (by omega)))) trivial) (by kernel_rfl)) (by kernel_rfl) ?_
              refine Wp.seq ?_
              refine Wp.condF (by kernel_rfl) ?_
              refine Wp.exit ?_
              refine Eq.mpr (if_pos rfl) ?_
              refine Wp.regionSeq [] [(6, .y (.one (.ptr 0 0))), (7, xi 0)] [.obj [vi o0, vi o1, vi o2], .obj [vi o0, vi o1, vi o2]]
                (cast trivial (by kernel_rfl)) (by kernel_rfl) ?_
              refine Wp.ret ?_
              exact ⟨Or.inr rfl, [.agg [vi o0, vi o1, vi o2], .one (vi 0)], by kernel_rfl, (by have hp : srvW l hand turns = ((o0, o1, o2), 0) := by { rw [srvW, c1, if_neg (by decide), if_neg (by omega)]; rw [show kx = turns % (l.length : Int) by omega] at j0 j1 j2; rw [j0, j1, j2]; rfl }; rw [hp]; rfl)⟩
  ·
    refine Wp.regionSeq [(1, xi 20, [.obj [vi 0, vi 0, vi 0], .obj [vi 0, vi 0, vi 0]])] [(0, .y (.one (sv NI b nil capd l))), (1, xi hand), (2, xi turns), (6, .y (.one (.ptr 0 0))), (8, .y (.one (.ptr 1 0))), (9, xi 20)] [.obj [vi 0, vi 0, vi 0], .obj [vi 0, vi 0, vi 0]]
      (cast (And.intro (ob_pure (P := pg) (A := an) (H := [.obj [vi 0, vi 0, vi 0], .obj [vi 0, vi 0, vi 0]]) (g := 13) (vals := [.y (.one (sv NI b nil capd l))]) (xs0 := [.one (sv NI b nil capd l)]) (xs1 := [.one (sv NI b nil capd l)]) (res := [.one (vi 20)]) (ats := #[]) (ty := 0) (v := xi 20) [.tmp 0] (by kernel_rfl) (by kernel_rfl) (by kernel_rfl) (by have := fn13 b nil capd l (by omega); rw [c1] at this; exact this) (by kernel_rfl)) trivial) (by kernel_rfl)) (by kernel_rfl) ?_
    refine Wp.regionSeq [] [(0, .y (.one (sv NI b nil capd l))), (1, xi hand), (2, xi turns), (6, .y (.one (.ptr 0 0))), (8, .y (.one (.ptr 1 0))), (9, xi 20), (16, xb true)] [.obj [vi 0, vi 0, vi 0], .obj [vi 0, vi 0, vi 0]]
      (cast trivial (by kernel_rfl)) (by kernel_rfl) ?_
    refine Wp.condT (by kernel_rfl) ?_
    refine Wp.regionSeq [] [(6, .y (.one (.ptr 0 0))), (7, xi 20)] [.obj [vi 0, vi 0, vi 0], .obj [vi 0, vi 0, vi 0]]
      (cast trivial (by kernel_rfl)) (by kernel_rfl) ?_
    refine Wp.ret ?_
    exact ⟨Or.inr rfl, [.agg [vi 0, vi 0, vi 0], .one (vi 20)], by kernel_rfl, (by have hp : srvW l hand turns = ((0, 0, 0), 20) := by { rw [srvW, c1]; rfl }; rw [hp]; rfl)⟩
theorem fn28 (b nil capd : Bool) (l : List Int) (hl : (l.length : Int) ≤ 4611686018427387904) (hand turns : Int) (hh : hand ≤ 9223372036854775807) (ht : turns ≤ 9223372036854775807) : PureC pg an 28 [.one (sv NI b nil capd l), .one (vi hand), .one (vi turns)] [.agg [vi (srvW l hand turns).1.1, vi (srvW l hand turns).1.2.1, vi (srvW l hand turns).1.2.2], .one (vi (srvW l hand turns).2)] := by
  refine Runs.of (fn := Try.f28) Try.func28 rfl (by kernel_rfl) [(0, .y (.one (sv NI b nil capd l))), (1, xi hand), (2, xi turns)] (by kernel_rfl) ?_
  refine Wp.regionSeq [] [(0, .y (.one (sv NI b nil capd l))), (1, xi hand), (2, xi turns), (6, .y (.one (.ptr 0 0)))] [.obj [vi 0, vi 0, vi 0]]
    (cast trivial (by kernel_rfl)) (by kernel_rfl) ?_
  refine Wp.regionSeq [] [(0, .y (.one (sv NI b nil capd l))), (1, xi hand), (2, xi turns), (6, .y (.one (.ptr 0 0))), (8, .y (.one (.ptr 1 0)))] [.obj [vi 0, vi 0, vi 0], .obj [vi 0, vi 0, vi 0]]
    (cast trivial (by kernel_rfl)) (by kernel_rfl) ?_
  refine Wp.seq ?_
  rcases Bool.eq_false_or_eq_true ((okW l)) with c1 | c1
  ·
    have hkz2 := okW_len c1
    refine Wp.regionSeq [(1, xi 0, [.obj [vi 0, vi 0, vi 0], .obj [vi 0, vi 0, vi 0]])] [(0, .y (.one (sv NI b nil capd l))), (1, xi hand), (2, xi turns), (6, .y (.one (.ptr 0 0))), (8, .y (.one (.ptr 1 0))), (15, xb false)] [.obj [vi 0, vi 0, vi 0], .obj [vi 0, vi 0, vi 0]]
      (cast (And.intro (ob_pure (P := pg) (A := an) (H := [.obj [vi 0, vi 0, vi 0], .obj [vi 0, vi 0, vi 0]]) (g := 14) (vals := [.y (.one (sv NI b nil capd l))]) (xs0 := [.one (sv NI b nil capd l)]) (xs1 := [.one (sv NI b nil capd l)]) (res := [.one (vi 0)]) (ats := #[]) (ty := 0) (v := xi 0) [.tmp 0] (by kernel_rfl) (by kernel_rfl) (by kernel_rfl) (by have := fn14 b nil capd l (by omega); rw [c1] at this; exact this) (by kernel_rfl)) trivial) (by kernel_rfl)) (by kernel_rfl) ?_
    refine Wp.condF (by kernel_rfl) ?_
    refine Wp.skip ?_
    refine Wp.seq ?_
    by_cases c3 : (hand : Int) < 0
    ·
      refine Wp.regionSeq [(1, xb true, [.obj [vi 0, vi 0, vi 0], .obj [vi 0, vi 0, vi 0]])] [(0, .y (.one (sv NI b nil capd l))), (1, xi hand), (2, xi turns), (6, .y (.one (.ptr 0 0))), (8, .y (.one (.ptr 1 0))), (28, xb true)] [.obj [vi 0, vi 0, vi 0], .obj [vi 0, vi 0, vi 0]]
        (cast (And.intro (ob_raw (P := pg) (A := an) (vals := [xi hand, xi 0]) (H := [.obj [vi 0, vi 0, vi 0], .obj [vi 0, vi 0, vi 0]]) (op := .binOp .lss 3 (.tmp 0) (.tmp 1) 3) (ty := 0) (r := xb (decide ((hand : Int) < 0))) (v := xb true) (by kernel_rfl) (congrArg (fun z => xb z) (decide_eq_true (by omega)))) trivial) (by kernel_rfl)) (by kernel_rfl) ?_
      refine Wp.condT (by kernel_rfl) ?_
      refine Wp.regionSeq [] [(6, .y (.one (.ptr 0 0))), (7, xi 1)] [.obj [vi 0, vi 0, vi 0], .obj [vi 0, vi 0, vi 0]]
        (cast trivial (by kernel_rfl)) (by kernel_rfl) ?_
      refine Wp.ret ?_
      exact ⟨Or.inr rfl, [.agg [vi 0, vi 0, vi 0], .one (vi 1)], by kernel_rfl, (by have hp : srvW l hand turns = ((0, 0, 0), 1) := by { rw [srvW, c1, if_neg (by decide), if_pos (by omega)] }; rw [hp]; rfl)⟩
    ·
      by_cases c4 : ((l.length : Int) : Int) ≤ hand
      ·
        refine Wp.regionSeq [(1, xb false, [.obj [vi 0, vi 0, vi 0], .obj [vi 0, vi 0, vi 0]]), (6, xb true, [.obj [vi 0, vi 0, vi 0], .obj [vi 0, vi 0, vi 0]])] [(0, .y (.one (sv NI b nil capd l))), (1, xi hand), (2, xi turns), (6, .y (.one (.ptr 0 0))), (8, .y (.one (.ptr 1 0))), (28, xb true)] [.obj [vi 0, vi 0, vi 0], .obj [vi 0, vi 0, vi 0]]
          (cast (And.intro (ob_raw (P := pg) (A := an) (vals := [xi hand, xi 0]) (H := [.obj [vi 0, vi 0, vi 0], .obj [vi 0, vi 0, vi 0]]) (op := .binOp .lss 3 (.tmp 0) (.tmp 1) 3) (ty := 0) (r := xb (decide ((hand : Int) < 0))) (v := xb false) (by kernel_rfl) (congrArg (fun z => xb z) (decide_eq_false (by omega)))) (And.intro (ob_raw (P := pg) (A := an) (vals := [xi hand, xi (l.length : Int)]) (H := [.obj [vi 0, vi 0, vi 0], .obj [vi 0, vi 0, vi 0]]) (op := .binOp .geq 3 (.tmp 0) (.tmp 1) 3) (ty := 0) (r := xb (decide ((hand : Int) ≥ (l.length : Int)))) (v := xb true) (by kernel_rfl) (congrArg (fun z => xb z) (decide_eq_true (by omega)))) trivial)) (by kernel_rfl)) (by kernel_rfl) ?_
        refine Wp.condT (by kernel_rfl) ?_
        refine Wp.regionSeq [] [(6, .y (.one (.ptr 0 0))), (7, xi 1)] [.obj [vi 0, vi 0, vi 0], .obj [vi 0, vi 0, vi 0]]
          (cast trivial (by kernel_rfl)) (by kernel_rfl) ?_
        refine Wp.ret ?_
        exact ⟨Or.inr rfl, [.agg [vi 0, vi 0, vi 0], .one (vi 1)], by kernel_rfl, (by have hp : srvW l hand turns = ((0, 0, 0), 1) := by { rw [srvW, c1, if_neg (by decide), if_pos (by omega)] }; rw [hp]; rfl)⟩
      ·
        by_cases c5 : (turns : Int) < 0
        ·
          refine Wp.regionSeq [(1, xb false, [.obj [vi 0, vi 0, vi 0], .obj [vi 0, vi 0, vi 0]]), (6, xb false, [.obj [vi 0, vi 0, vi 0], .obj [vi 0, vi 0, vi 0]]), (10, xb true, [.obj [vi 0, vi 0, vi 0], .obj [vi 0, vi 0, vi 0]])] [(0, .y (.one (sv NI b nil capd l))), (1, xi hand), (2, xi turns), (6, .y (.one (.ptr 0 0))), (8, .y (.one (.ptr 1 0))), (28, xb true)] [.obj [vi 0, vi 0, vi 0], .obj [vi 0, vi 0, vi 0]]
            (cast (And.intro (ob_raw (P := pg) (A := an) (vals := [xi hand, xi 0]) (H := [.obj [vi 0, vi 0, vi 0], .obj [vi 0, vi 0, vi 0]]) (op := .binOp .lss 3 (.tmp 0) (.tmp 1) 3) (ty := 0) (r := xb (decide ((hand : Int) < 0))) (v := xb false) (by kernel_rfl) (congrArg (fun z => xb z) (decide_eq_false (by omega)))) (And.intro (ob_raw (P := pg) (A := an) (vals := [xi hand, xi (l.length : Int)]) (H := [.obj [vi 0, vi 0, vi 0], .obj [vi 0, vi 0, vi 0]]) (op := .binOp .geq 3 (.tmp 0) (.tmp 1) 3) (ty := 0) (r := xb (decide ((hand : Int) ≥ (l.length : Int)))) (v := xb false) (by kernel_rfl) (congrArg (fun z => xb z) (decide_eq_false (by omega)))) (And.intro (ob_raw (P := pg) (A := an) (vals := [xi turns, xi 0]) (H := [.obj [vi 0, vi 0, vi 0], .obj [vi 0, vi 0, vi 0]]) (op := .binOp .lss 3 (.tmp 0) (.tmp 1) 3) (ty := 0) (r := xb (decide ((turns : Int) < 0))) (v := xb true) (by kernel_rfl) (congrArg (fun z => xb z) (decide_eq_true (by omega)))) trivial))) (by kernel_rfl)) (by kernel_rfl) ?_
          refine Wp.condT (by kernel_rfl) ?_
          refine Wp.regionSeq [] [(6, .y (.one (.ptr 0 0))), (7, xi 1)] [.obj [vi 0, vi 0, vi 0], .obj [vi 0, vi 0, vi 0]]
            (cast trivial (by kernel_rfl)) (by kernel_rfl) ?_
          refine Wp.ret ?_
          exact ⟨Or.inr rfl, [.agg [vi 0, vi 0, vi 0], .one (vi 1)], by kernel_rfl, (by have hp : srvW l hand turns = ((0, 0, 0), 1) := by { rw [srvW, c1, if_neg (by decide), if_pos (by omega)] }; rw [hp]; rfl)⟩
        ·
          refine Wp.regionSeq [(1, xb false, [.obj [vi 0, vi 0, vi 0], .obj [vi 0, vi 0, vi 0]]), (6, xb false, [.obj [vi 0, vi 0, vi 0], .obj [vi 0, vi 0, vi 0]]), (10, xb false, [.obj [vi 0, vi 0, vi 0], .obj [vi 0, vi 0, vi 0]])] [(0, .y (.one (sv NI b nil capd l))), (1, xi hand), (2, xi turns), (6, .y (.one (.ptr 0 0))), (8, .y (.one (.ptr 1 0))), (28, xb false)] [.obj [vi 0, vi 0, vi 0], .obj [vi 0, vi 0, vi 0]]
            (cast (And.intro (ob_raw (P := pg) (A := an) (vals := [xi hand, xi 0]) (H := [.obj [vi 0, vi 0, vi 0], .obj [vi 0, vi 0, vi 0]]) (op := .binOp .lss 3 (.tmp 0) (.tmp 1) 3) (ty := 0) (r := xb (decide ((hand : Int) < 0))) (v := xb false) (by kernel_rfl) (congrArg (fun z => xb z) (decide_eq_false (by omega)))) (And.intro (ob_raw (P := pg) (A := an) (vals := [xi hand, xi (l.length : Int)]) (H := [.obj [vi 0, vi 0, vi 0], .obj [vi 0, vi 0, vi 0]]) (op := .binOp .geq 3 (.tmp 0) (.tmp 1) 3) (ty := 0) (r := xb (decide ((hand : Int) ≥ (l.length : Int)))) (v := xb false) (by kernel_rfl) (congrArg (fun z => xb z) (decide_eq_false (by omega)))) (And.intro (ob_raw (P := pg) (A := an) (vals := [xi turns, xi 0]) (H := [.obj [vi 0, vi 0, vi 0], .obj [vi 0, vi 0, vi 0]]) (op := .binOp .lss 3 (.tmp 0) (.tmp 1) 3) (ty := 0) (r := xb (decide ((turns : Int) < 0))) (v := xb false) (by kernel_rfl) (congrArg (fun z => xb z) (decide_eq_false (by omega)))) trivial))) (by kernel_rfl)) (by kernel_rfl) ?_
          refine Wp.condF (by kernel_rfl) ?_
          refine Wp.skip ?_
          refine Wp.regionSeq [] [(0, .y (.one (sv NI b nil capd l))), (1, xi hand), (2, xi turns), (6, .y (.one (.ptr 0 0))), (8, .y (.one (.ptr 1 0))), (9, xi (l.length : Int))] [.obj [vi 0, vi 0, vi 0], .obj [vi 0, vi 0, vi 0]]
            (cast trivial (by kernel_rfl)) (by kernel_rfl) ?_
          refine Wp.seq ?_
          refine Wp.regionSeq [] [(0, .y (.one (sv NI b nil capd l))), (1, xi hand), (2, xi turns), (6, .y (.one (.ptr 0 0))), (8, .y (.one (.ptr 1 0))), (9, xi (l.length : Int)), (10, xi 0)] [.obj [vi 0, vi 0, vi 0], .obj [vi 0, vi 0, vi 0]]
            (cast trivial (by kernel_rfl)) (by kernel_rfl) ?_
          refine Wp.block ?_
          refine Wp.loop (T := Int × Int × Int × Int) (fun (t : Int × Int × Int × Int) => match t with | (ix, o0, o1, o2) => (((l.length : Int) - ix).toNat : Nat)) (fun (t : Int × Int × Int × Int) => match t with | (ix, o0, o1, o2) => ([(0, .y (.one (sv NI b nil capd l))), (1, xi hand), (2, xi turns), (6, .y (.one (.ptr 0 0))), (8, .y (.one (.ptr 1 0))), (9, xi (l.length : Int)), (10, xi ix)] : Env)) (fun (t : Int × Int × Int × Int) => match t with | (ix, o0, o1, o2) => ([.obj [vi 0, vi 0, vi 0], .obj [vi o0, vi o1, vi o2]] : Go.Lg.Heap))
            (fun (t : Int × Int × Int × Int) => match t with | (ix, o0, o1, o2) => (0 ≤ ix ∧ ix ≤ (l.length : Int) ∧ o0 = turns / (l.length : Int) * cnt 0 (l.take ix.toNat) ∧ o1 = turns / (l.length : Int) * cnt 1 (l.take ix.toNat) ∧ o2 = turns / (l.length : Int) * cnt 2 (l.take ix.toNat) : Prop)) (0, 0, 0, 0) (by kernel_rfl) (by exact ⟨by omega, by omega, by simp [cnt], by simp [cnt], by simp [cnt]⟩) ?_
          rintro ⟨ix, o0, o1, o2⟩ ⟨i1, i2, j0, j1, j2⟩
          show Wp _ _ _ _ [(0, .y (.one (sv NI b nil capd l))), (1, xi hand), (2, xi turns), (6, .y (.one (.ptr 0 0))), (8, .y (.one (.ptr 1 0))), (9, xi (l.length : Int)), (10, xi ix)] [.obj [vi 0, vi 0, vi 0], .obj [vi o0, vi o1, vi o2]] _
          refine Wp.seq ?_
          by_cases c6 : (ix : Int) < (l.length : Int)
          ·
            refine Wp.regionSeq [(2, xb true, [.obj [vi 0, vi 0, vi 0], .obj [vi o0, vi o1, vi o2]])] [(0, .y (.one (sv NI b nil capd l))), (1, xi hand), (2, xi turns), (6, .y (.one (.ptr 0 0))), (8, .y (.one (.ptr 1 0))), (9, xi (l.length : Int)), (10, xi ix), (34, xb true)] [.obj [vi 0, vi 0, vi 0], .obj [vi o0, vi o1, vi o2]]
              (cast (And.intro (ob_raw (P := pg) (A := an) (vals := [xi ix, xi (l.length : Int)]) (H := [.obj [vi 0, vi 0, vi 0], .obj [vi o0, vi o1, vi o2]]) (op := .binOp .lss 3 (.tmp 0) (.tmp 1) 3) (ty := 0) (r := xb (decide ((ix : Int) < (l.length : Int)))) (v := xb true) (by kernel_rfl) (congrArg (fun z => xb z) (decide_eq_true (by omega)))) trivial) (by kernel_rfl)) (by kernel_rfl) ?_
            refine Wp.condT (by kernel_rfl) ?_
            refine Wp.skip ?_
            refine Wp.seq ?_
            refine Wp.block ?_
            obtain ⟨x7, hx7⟩ : ∃ x, l[(ix : Int).toNat]? = some x := get_of (by omega)
            have hez8 := okW_elem c1 hx7
            have hbz9 := srv_bd (l := l) (t := turns) (i := ix) (by omega) (by omega) (by omega) j0
            have hbz10 := srv_bd (l := l) (t := turns) (i := ix) (by omega) (by omega) (by omega) j1
            have hbz11 := srv_bd (l := l) (t := turns) (i := ix) (by omega) (by omega) (by omega) j2
            rcases (show x7 = 0 ∨ x7 = 1 ∨ x7 = 2 from by omega) with rfl | rfl | rfl
            ·
              have hqz12 := div_is (a := turns) (b := (l.length : Int)) (by omega) (by omega)
              refine Wp.region [(2, .y (.one (.rd ([vi 0] ++ (l.drop ((ix : Int).toNat + 1)).flatMap (enc NI)))), [.obj [vi 0, vi 0, vi 0], .obj [vi o0, vi o1, vi o2]]), (6, .y (.one (.rd ([vi 0] ++ (l.drop ((ix : Int).toNat + 1)).flatMap (enc NI)))), [.obj [vi 0, vi 0, vi 0], .obj [vi o0, vi o1, vi o2]]), (12, xi (turns / (l.length : Int)), [.obj [vi 0, vi 0, vi 0], .obj [vi o0, vi o1, vi o2]]), (13, xi (o0 + (turns / (l.length : Int))), [.obj [vi 0, vi 0, vi 0], .obj [vi o0, vi o1, vi o2]])] [(0, .y (.one (sv NI b nil capd l))), (1, xi hand), (2, xi turns), (6, .y (.one (.ptr 0 0))), (8, .y (.one (.ptr 1 0))), (9, xi (l.length : Int)), (10, xi ix)] [.obj [vi 0, vi 0, vi 0], .obj [vi (o0 + (turns / (l.length : Int))), vi o1, vi o2]]
                (cast (And.intro (ob_index (P := pg) (A := an) (H := [.obj [vi 0, vi 0, vi 0], .obj [vi o0, vi o1, vi o2]]) (s := NI) (b := b) (nil := nil) (capd := capd) (t := 22) (el := 3) (i := ix) Try.underlying22 (by kernel_rfl) (by kernel_rfl) (by omega) hx7) (And.intro (ob_index (P := pg) (A := an) (H := [.obj [vi 0, vi 0, vi 0], .obj [vi o0, vi o1, vi o2]]) (s := NI) (b := b) (nil := nil) (capd := capd) (t := 22) (el := 3) (i := ix) Try.underlying22 (by kernel_rfl) (by kernel_rfl) (by omega) hx7) (And.intro (ob_quo (P := pg) (A := an) (H := [.obj [vi 0, vi 0, vi 0], .obj [vi o0, vi o1, vi o2]]) (t := 3) (u := 3) (ty := 0) (a := turns) (b := (l.length : Int)) (by omega) (by omega) (by omega)) (And.intro (ob_raw (P := pg) (A := an) (vals := [xi o0, xi (turns / (l.length : Int))]) (H := [.obj [vi 0, vi 0, vi 0], .obj [vi o0, vi o1, vi o2]]) (op := .binOp .add 3 (.tmp 0) (.tmp 1) 3) (ty := 0) (r := xi (IntKind.wrap .i64 (o0 + (turns / (l.length : Int))))) (v := xi (o0 + (turns / (l.length : Int)))) (by kernel_rfl) (congrArg (fun z => xi z) ((wrap64 (by omega)).trans (by omega)))) trivial)))) (by kernel_rfl)) (by kernel_rfl) ?_
              refine Wp.region [(1, xi (ix + 1), [.obj [vi 0, vi 0, vi 0], .obj [vi (o0 + (turns / (l.length : Int))), vi o1, vi o2]])] [(0, .y (.one (sv NI b nil capd l))), (1, xi hand), (2, xi turns), (6, .y (.one (.ptr 0 0))), (8, .y (.one (.ptr 1 0))), (9, xi (l.length : Int)), (10, xi (ix + 1))] [.obj [vi 0, vi 0, vi 0], .obj [vi (o0 + (turns / (l.length : Int))), vi o1, vi o2]]
                (cast (And.intro (ob_raw (P := pg) (A := an) (vals := [xi ix, xi 1]) (H := [.obj [vi 0, vi 0, vi 0], .obj [vi (o0 + (turns / (l.length : Int))), vi o1, vi o2]]) (op := .binOp .add 3 (.tmp 0) (.tmp 1) 3) (ty := 0) (r := xi (IntKind.wrap .i64 (ix + 1))) (v := xi (ix + 1)) (by kernel_rfl) (congrArg (fun z => xi z) ((wrap64 (by omega)).trans (by omega)))) trivial) (by kernel_rfl)) (by kernel_rfl) ?_
              exact ⟨((ix + 1), (o0 + (turns / (l.length : Int))), o1, o2), by kernel_rfl, (by exact ⟨by omega, by omega, cnt_hit (by omega) hx7 j0, cnt_miss (by omega) hx7 (by decide) j1, cnt_miss (by omega) hx7 (by decide) j2⟩), (by show (_ : Nat) < _; simp only []; omega)⟩
            ·
              have hqz14 := div_is (a := turns) (b := (l.length : Int)) (by omega) (by omega)
              refine Wp.region [(2, .y (.one (.rd ([vi 1] ++ (l.drop ((ix : Int).toNat + 1)).flatMap (enc NI)))), [.obj [vi 0, vi 0, vi 0], .obj [vi o0, vi o1, vi o2]]), (6, .y (.one (.rd ([vi 1] ++ (l.drop ((ix : Int).toNat + 1)).flatMap (enc NI)))), [.obj [vi 0, vi 0, vi 0], .obj [vi o0, vi o1, vi o2]]), (12, xi (turns / (l.length : Int)), [.obj [vi 0, vi 0, vi 0], .obj [vi o0, vi o1, vi o2]]), (13, xi (o1 + (turns / (l.length : Int))), [.obj [vi 0, vi 0, vi 0], .obj [vi o0, vi o1, vi o2]])] [(0, .y (.one (sv NI b nil capd l))), (1, xi hand), (2, xi turns), (6, .y (.one (.ptr 0 0))), (8, .y (.one (.ptr 1 0))), (9, xi (l.length : Int)), (10, xi ix)] [.obj [vi 0, vi 0, vi 0], .obj [vi o0, vi (o1 + (turns / (l.length : Int))), vi o2]]
                (cast (And.intro (ob_index (P := pg) (A := an) (H := [.obj [vi 0, vi 0, vi 0], .obj [vi o0, vi o1, vi o2]]) (s := NI) (b := b) (nil := nil) (capd := capd) (t := 22) (el := 3) (i := ix) Try.underlying22 (by kernel_rfl) (by kernel_rfl) (by omega) hx7) (And.intro (ob_index (P := pg) (A := an) (H := [.obj [vi 0, vi 0, vi 0], .obj [vi o0, vi o1, vi o2]]) (s := NI) (b := b) (nil := nil) (capd := capd) (t := 22) (el := 3) (i := ix) Try.underlying22 (by kernel_rfl) (by kernel_rfl) (by omega) hx7) (And.intro (ob_quo (P := pg) (A := an) (H := [.obj [vi 0, vi 0, vi 0], .obj [vi o0, vi o1, vi o2]]) (t := 3) (u := 3) (ty := 0) (a := turns) (b := (l.length : Int)) (by omega) (by omega) (by omega)) (And.intro (ob_raw (P := pg) (A := an) (vals := [xi o1, xi (turns / (l.length : Int))]) (H := [.obj [vi 0, vi 0, vi 0], .obj [vi o0, vi o1, vi o2]]) (op := .binOp .add 3 (.tmp 0) (.tmp 1) 3) (ty := 0) (r := xi (IntKind.wrap .i64 (o1 + (turns / (l.length : Int))))) (v := xi (o1 + (turns / (l.length : Int)))) (by kernel_rfl) (congrArg (fun z => xi z) ((wrap64 (by omega)).trans (by omega)))) trivial)))) (by kernel_rfl)) (by kernel_rfl) ?_
              refine Wp.region [(1, xi (ix + 1), [.obj [vi 0, vi 0, vi 0], .obj [vi o0, vi (o1 + (turns / (l.length : Int))), vi o2]])] [(0, .y (.one (sv NI b nil capd l))), (1, xi hand), (2, xi turns), (6, .y (.one (.ptr 0 0))), (8, .y (.one (.ptr 1 0))), (9, xi (l.length : Int)), (10, xi (ix + 1))] [.obj [vi 0, vi 0, vi 0], .obj [vi o0, vi (o1 + (turns / (l.length : Int))), vi o2]]
                (cast (And.intro (ob_raw (P := pg) (A := an) (vals := [xi ix, xi 1]) (H := [.obj [vi 0, vi 0, vi 0], .obj [vi o0, vi (o1 + (turns / (l.length : Int))), vi o2]]) (op := .binOp .add 3 (.tmp 0) (.tmp 1) 3) (ty := 0) (r := xi (IntKind.wrap .i64 (ix + 1))) (v := xi (ix + 1)) (by kernel_rfl) (congrArg (fun z => xi z) ((wrap64 (by omega)).trans (by omega)))) trivial) (by kernel_rfl)) (by kernel_rfl) ?_
              exact ⟨((ix + 1), o0, (o1 + (turns / (l.length : Int))), o2), by kernel_rfl, (by exact ⟨by omega, by omega, cnt_miss (by omega) hx7 (by decide) j0, cnt_hit (by omega) hx7 j1, cnt_miss (by omega) hx7 (by decide) j2⟩), (by show (_ : Nat) < _; simp only []; omega)⟩
            ·
              have hqz16 := div_is (a := turns) (b := (l.length : Int)) (by omega) (by omega)
              refine Wp.region [(2, .y (.one (.rd ([vi 2] ++ (l.drop ((ix : Int).toNat + 1)).flatMap (enc NI)))), [.obj [vi 0, vi 0, vi 0], .obj [vi o0, vi o1, vi o2]]), (6, .y (.one (.rd ([vi 2] ++ (l.drop ((ix : Int).toNat + 1)).flatMap (enc NI)))), [.obj [vi 0, vi 0, vi 0], .obj [vi o0, vi o1, vi o2]]), (12, xi (turns / (l.length : Int)), [.obj [vi 0, vi 0, vi 0], .obj [vi o0, vi o1, vi o2]]), (13, xi (o2 + (turns / (l.length : Int))), [.obj [vi 0, vi 0, vi 0], .obj [vi o0, vi o1, vi o2]])] [(0, .y (.one (sv NI b nil capd l))), (1, xi hand), (2, xi turns), (6, .y (.one (.ptr 0 0))), (8, .y (.one (.ptr 1 0))), (9, xi (l.length : Int)), (10, xi ix)] [.obj [vi 0, vi 0, vi 0], .obj [vi o0, vi o1, vi (o2 + (turns / (l.length : Int)))]]
                (cast (And.intro (ob_index (P := pg) (A := an) (H := [.obj [vi 0, vi 0, vi 0], .obj [vi o0, vi o1, vi o2]]) (s := NI) (b := b) (nil := nil) (capd := capd) (t := 22) (el := 3) (i := ix) Try.underlying22 (by kernel_rfl) (by kernel_rfl) (by omega) hx7) (And.intro (ob_index (P := pg) (A := an) (H := [.obj [vi 0, vi 0, vi 0], .obj [vi o0, vi o1, vi o2]]) (s := NI) (b := b) (nil := nil) (capd := capd) (t := 22) (el := 3) (i := ix) Try.underlying22 (by kernel_rfl) (by kernel_rfl) (by omega) hx7) (And.intro (ob_quo (P := pg) (A := an) (H := [.obj [vi 0, vi 0, vi 0], .obj [vi o0, vi o1, vi o2]]) (t := 3) (u := 3) (ty := 0) (a := turns) (b := (l.length : Int)) (by omega) (by omega) (by omega)) (And.intro (ob_raw (P := pg) (A := an) (vals := [xi o2, xi (turns / (l.length : Int))]) (H := [.obj [vi 0, vi 0, vi 0], .obj [vi o0, vi o1, vi o2]]) (op := .binOp .add 3 (.tmp 0) (.tmp 1) 3) (ty := 0) (r := xi (IntKind.wrap .i64 (o2 + (turns / (l.length : Int))))) (v := xi (o2 + (turns / (l.length : Int)))) (by kernel_rfl) (congrArg (fun z => xi z) ((wrap64 (by omega)).trans (by omega)))) trivial)))) (by kernel_rfl)) (by kernel_rfl) ?_
              refine Wp.region [(1, xi (ix + 1), [.obj [vi 0, vi 0, vi 0], .obj [vi o0, vi o1, vi (o2 + (turns / (l.length : Int)))]])] [(0, .y (.one (sv NI b nil capd l))), (1, xi hand), (2, xi turns), (6, .y (.one (.ptr 0 0))), (8, .y (.one (.ptr 1 0))), (9, xi (l.length : Int)), (10, xi (ix + 1))] [.obj [vi 0, vi 0, vi 0], .obj [vi o0, vi o1, vi (o2 + (turns / (l.length : Int)))]]
                (cast (And.intro (ob_raw (P := pg) (A := an) (vals := [xi ix, xi 1]) (H := [.obj [vi 0, vi 0, vi 0], .obj [vi o0, vi o1, vi (o2 + (turns / (l.length : Int)))]]) (op := .binOp .add 3 (.tmp 0) (.tmp 1) 3) (ty := 0) (r := xi (IntKind.wrap .i64 (ix + 1))) (v := xi (ix + 1)) (by kernel_rfl) (congrArg (fun z => xi z) ((wrap64 (by omega)).trans (by omega)))) trivial) (by kernel_rfl)) (by kernel_rfl) ?_
              exact ⟨((ix + 1), o0, o1, (o2 + (turns / (l.length : Int)))), by kernel_rfl, (by exact ⟨by omega, by omega, cnt_miss (by omega) hx7 (by decide) j0, cnt_miss (by omega) hx7 (by decide) j1, cnt_hit (by omega) hx7 j2⟩), (by show (_ : Nat) < _; simp only []; omega)⟩
          ·
            refine Wp.regionSeq [(2, xb false, [.obj [vi 0, vi 0, vi 0], .obj [vi o0, vi o1, vi o2]])] [(0, .y (.one (sv NI b nil capd l))), (1, xi hand), (2, xi turns), (6, .y (.one (.ptr 0 0))), (8, .y (.one (.ptr 1 0))), (9, xi (l.length : Int)), (10, xi ix), (34, xb false)] [.obj [vi 0, vi 0, vi 0], .obj [vi o0, vi o1, vi o2]]
              (cast (And.intro (ob_raw (P := pg) (A := an) (vals := [xi ix, xi (l.length : Int)]) (H := [.obj [vi 0, vi 0, vi 0], .obj [vi o0, vi o1, vi o2]]) (op := .binOp .lss 3 (.tmp 0) (.tmp 1) 3) (ty := 0) (r := xb (decide ((ix : Int) < (l.length : Int)))) (v := xb false) (by kernel_rfl) (congrArg (fun z => xb z) (decide_eq_false (by omega)))) trivial) (by kernel_rfl)) (by kernel_rfl) ?_
            refine Wp.condF (by kernel_rfl) ?_
            refine Wp.exit ?_
            refine Eq.mpr (if_pos rfl) ?_
            refine Wp.seq ?_
            refine Wp.regionSeq [] [(0, .y (.one (sv NI b nil capd l))), (1, xi hand), (2, xi turns), (6, .y (.one (.ptr 0 0))), (8, .y (.one (.ptr 1 0))), (9, xi (l.length : Int)), (11, xi 0)] [.obj [vi 0, vi 0, vi 0], .obj [vi o0, vi o1, vi o2]]
              (cast trivial (by kernel_rfl)) (by kernel_rfl) ?_
            refine Wp.block ?_
            have hmq := mod_is (a := turns) (b := (l.length : Int)) (by omega) (by omega)
            refine Wp.loop (T := Int × Int × Int × Int) (fun (t : Int × Int × Int × Int) => match t with | (kx, o0, o1, o2) => ((turns % (l.length : Int) - kx).toNat : Nat)) (fun (t : Int × Int × Int × Int) => match t with | (kx, o0, o1, o2) => ([(0, .y (.one (sv NI b nil capd l))), (1, xi hand), (2, xi turns), (6, .y (.one (.ptr 0 0))), (8, .y (.one (.ptr 1 0))), (9, xi (l.length : Int)), (11, xi kx)] : Env)) (fun (t : Int × Int × Int × Int) => match t with | (kx, o0, o1, o2) => ([.obj [vi 0, vi 0, vi 0], .obj [vi o0, vi o1, vi o2]] : Go.Lg.Heap))
              (fun (t : Int × Int × Int × Int) => match t with | (kx, o0, o1, o2) => (0 ≤ kx ∧ kx ≤ turns % (l.length : Int) ∧ o0 = turns / (l.length : Int) * cnt 0 l + cyc l hand 0 kx.toNat ∧ o1 = turns / (l.length : Int) * cnt 1 l + cyc l hand 1 kx.toNat ∧ o2 = turns / (l.length : Int) * cnt 2 l + cyc l hand 2 kx.toNat : Prop)) (0, o0, o1, o2) (by kernel_rfl) (by rw [show ix.toNat = l.length by omega, List.take_length] at j0 j1 j2; exact ⟨by omega, by omega, by rw [j0]; simp [cyc], by rw [j1]; simp [cyc], by rw [j2]; simp [cyc]⟩) ?_
            rintro ⟨kx, o0, o1, o2⟩ ⟨i1, i2, j0, j1, j2⟩
            show Wp _ _ _ _ [(0, .y (.one (sv NI b nil capd l))), (1, xi hand), (2, xi turns), (6, .y (.one (.ptr 0 0))), (8, .y (.one (.ptr 1 0))), (9, xi (l.length : Int)), (11, xi kx)] [.obj [vi 0, vi 0, vi 0], .obj [vi o0, vi o1, vi o2]] _
            refine Wp.seq ?_
            by_cases c19 : (kx : Int) < (turns % (l.length : Int))
            ·
              refine Wp.regionSeq [(3, xi (turns % (l.length : Int)), [.obj [vi 0, vi 0, vi 0], .obj [vi o0, vi o1, vi o2]]), (4, xb true, [.obj [vi 0, vi 0, vi 0], .obj [vi o0, vi o1, vi o2]])] [(0, .y (.one (sv NI b nil capd l))), (1, xi hand), (2, xi turns), (6, .y (.one (.ptr 0 0))), (8, .y (.one (.ptr 1 0))), (9, xi (l.length : Int)), (11, xi kx), (56, xb true)] [.obj [vi 0, vi 0, vi 0], .obj [vi o0, vi o1, vi o2]]
                (cast (And.intro (ob_rem (P := pg) (A := an) (H := [.obj [vi 0, vi 0, vi 0], .obj [vi o0, vi o1, vi o2]]) (t := 3) (u := 3) (ty := 0) (a := turns) (b := (l.length : Int)) (by omega) (by omega)) (And.intro (ob_raw (P := pg) (A := an) (vals := [xi kx, xi (turns % (l.length : Int))]) (H := [.obj [vi 0, vi 0, vi 0], .obj [vi o0, vi o1, vi o2]]) (op := .binOp .lss 3 (.tmp 0) (.tmp 1) 3) (ty := 0) (r := xb (decide ((kx : Int) < (turns % (l.length : Int))))) (v := xb true) (by kernel_rfl) (congrArg (fun z => xb z) (decide_eq_true (by omega)))) trivial)) (by kernel_rfl)) (by kernel_rfl) ?_
              refine Wp.condT (by kernel_rfl) ?_
              refine Wp.skip ?_
              refine Wp.seq ?_
              refine Wp.block ?_
              have hmz21 := mod_is (a := (hand + kx)) (b := (l.length : Int)) (by omega) (by omega)
              obtain ⟨x23, hx23⟩ : ∃ x, l[(((hand + kx) % (l.length : Int)) : Int).toNat]? = some x := get_of (by omega)
              have hez24 := okW_elem c1 hx23
              have hbz25 := srv_bd2 (l := l) (t := turns) (k := kx) (hd := hand) (by omega) (by omega) (by omega) (by omega) j0
              have hbz26 := srv_bd2 (l := l) (t := turns) (k := kx) (hd := hand) (by omega) (by omega) (by omega) (by omega) j1
              have hbz27 := srv_bd2 (l := l) (t := turns) (k := kx) (hd := hand) (by omega) (by omega) (by omega) (by omega) j2
              refine Wp.regionSeq [(3, xi (hand + kx), [.obj [vi 0, vi 0, vi 0], .obj [vi o0, vi o1, vi o2]]), (5, xi ((hand + kx) % (l.length : Int)), [.obj [vi 0, vi 0, vi 0], .obj [vi o0, vi o1, vi o2]]), (6, .y (.one (.rd ([vi x23] ++ (l.drop ((((hand + kx) % (l.length : Int)) : Int).toNat + 1)).flatMap (enc NI)))), [.obj [vi 0, vi 0, vi 0], .obj [vi o0, vi o1, vi o2]])] [(0, .y (.one (sv NI b nil capd l))), (1, xi hand), (2, xi turns), (6, .y (.one (.ptr 0 0))), (8, .y (.one (.ptr 1 0))), (9, xi (l.length : Int)), (11, xi kx), (12, xi x23)] [.obj [vi 0, vi 0, vi 0], .obj [vi o0, vi o1, vi o2]]
                (cast (And.intro (ob_raw (P := pg) (A := an) (vals := [xi hand, xi kx]) (H := [.obj [vi 0, vi 0, vi 0], .obj [vi o0, vi o1, vi o2]]) (op := .binOp .add 3 (.tmp 0) (.tmp 1) 3) (ty := 0) (r := xi (IntKind.wrap .i64 (hand + kx))) (v := xi (hand + kx)) (by kernel_rfl) (congrArg (fun z => xi z) ((wrap64 (by omega)).trans (by omega)))) (And.intro (ob_rem (P := pg) (A := an) (H := [.obj [vi 0, vi 0, vi 0], .obj [vi o0, vi o1, vi o2]]) (t := 3) (u := 3) (ty := 0) (a := (hand + kx)) (b := (l.length : Int)) (by omega) (by omega)) (And.intro (ob_index (P := pg) (A := an) (H := [.obj [vi 0, vi 0, vi 0], .obj [vi o0, vi o1, vi o2]]) (s := NI) (b := b) (nil := nil) (capd := capd) (t := 22) (el := 3) (i := ((hand + kx) % (l.length : Int))) Try.underlying22 (by kernel_rfl) (by kernel_rfl) (by omega) hx23) trivial))) (by kernel_rfl)) (by kernel_rfl) ?_
              rcases (show x23 = 0 ∨ x23 = 1 ∨ x23 = 2 from by omega) with rfl | rfl | rfl
              ·
                refine Wp.region [(4, xi (o0 + 1), [.obj [vi 0, vi 0, vi 0], .obj [vi o0, vi o1, vi o2]])] [(0, .y (.one (sv NI b nil capd l))), (1, xi hand), (2, xi turns), (6, .y (.one (.ptr 0 0))), (8, .y (.one (.ptr 1 0))), (9, xi (l.length : Int)), (11, xi kx)] [.obj [vi 0, vi 0, vi 0], .obj [vi (o0 + 1), vi o1, vi o2]]
                  (cast (And.intro (ob_raw (P := pg) (A := an) (vals := [xi o0, xi 1]) (H := [.obj [vi 0, vi 0, vi 0], .obj [vi o0, vi o1, vi o2]]) (op := .binOp .add 3 (.tmp 0) (.tmp 1) 3) (ty := 0) (r := xi (IntKind.wrap .i64 (o0 + 1))) (v := xi (o0 + 1)) (by kernel_rfl) (congrArg (fun z => xi z) ((wrap64 (by omega)).trans (by omega)))) trivial) (by kernel_rfl)) (by kernel_rfl) ?_
                refine Wp.region [(1, xi (kx + 1), [.obj [vi 0, vi 0, vi 0], .obj [vi (o0 + 1), vi o1, vi o2]])] [(0, .y (.one (sv NI b nil capd l))), (1, xi hand), (2, xi turns), (6, .y (.one (.ptr 0 0))), (8, .y (.one (.ptr 1 0))), (9, xi (l.length : Int)), (11, xi (kx + 1))] [.obj [vi 0, vi 0, vi 0], .obj [vi (o0 + 1), vi o1, vi o2]]
                  (cast (And.intro (ob_raw (P := pg) (A := an) (vals := [xi kx, xi 1]) (H := [.obj [vi 0, vi 0, vi 0], .obj [vi (o0 + 1), vi o1, vi o2]]) (op := .binOp .add 3 (.tmp 0) (.tmp 1) 3) (ty := 0) (r := xi (IntKind.wrap .i64 (kx + 1))) (v := xi (kx + 1)) (by kernel_rfl) (congrArg (fun z => xi z) ((wrap64 (by omega)).trans (by omega)))) trivial) (by kernel_rfl)) (by kernel_rfl) ?_
                exact ⟨((kx + 1), (o0 + 1), o1, o2), by kernel_rfl, (by exact ⟨by omega, by omega, cyc_hit (by omega) hx23 j0, cyc_miss (by omega) hx23 (by decide) j1, cyc_miss (by omega) hx23 (by decide) j2⟩), (by show (_ : Nat) < _; simp only []; omega)⟩
              ·
                refine Wp.region [(4, xi (o1 + 1), [.obj [vi 0, vi 0, vi 0], .obj [vi o0, vi o1, vi o2]])] [(0, .y (.one (sv NI b nil capd l))), (1, xi hand), (2, xi turns), (6, .y (.one (.ptr 0 0))), (8, .y (.one (.ptr 1 0))), (9, xi (l.length : Int)), (11, xi kx)] [.obj [vi 0, vi 0, vi 0], .obj [vi o0, vi (o1 + 1), vi o2]]
                  (cast (And.intro (ob_raw (P := pg) (A := an) (vals := [xi o1, xi 1]) (H := [.obj [vi 0, vi 0, vi 0], .obj [vi o0, vi o1, vi o2]]) (op := .binOp .add 3 (.tmp 0) (.tmp 1) 3) (ty := 0) (r := xi (IntKind.wrap .i64 (o1 + 1))) (v := xi (o1 + 1)) (by kernel_rfl) (congrArg (fun z => xi z) ((wrap64 (by omega)).trans (by omega)))) trivial) (by kernel_rfl)) (by kernel_rfl) ?_
                refine Wp.region [(1, xi (kx + 1), [.obj [vi 0, vi 0, vi 0], .obj [vi o0, vi (o1 + 1), vi o2]])] [(0, .y (.one (sv NI b nil capd l))), (1, xi hand), (2, xi turns), (6, .y (.one (.ptr 0 0))), (8, .y (.one (.ptr 1 0))), (9, xi (l.length : Int)), (11, xi (kx + 1))] [.obj [vi 0, vi 0, vi 0], .obj [vi o0, vi (o1 + 1), vi o2]]
                  (cast (And.intro (ob_raw (P := pg) (A := an) (vals := [xi kx, xi 1]) (H := [.obj [vi 0, vi 0, vi 0], .obj [vi o0, vi (o1 + 1), vi o2]]) (op := .binOp .add 3 (.tmp 0) (.tmp 1) 3) (ty := 0) (r := xi (IntKind.wrap .i64 (kx + 1))) (v := xi (kx + 1)) (by kernel_rfl) (congrArg (fun z => xi z) ((wrap64 (by omega)).trans (by omega)))) trivial) (by kernel_rfl)) (by kernel_rfl) ?_
                exact ⟨((kx + 1), o0, (o1 + 1), o2), by kernel_rfl, (by exact ⟨by omega, by omega, cyc_miss (by omega) hx23 (by decide) j0, cyc_hit (by omega) hx23 j1, cyc_miss (by omega) hx23 (by decide) j2⟩), (by show (_ : Nat) < _; simp only []; omega)⟩
              ·
                refine Wp.region [(4, xi (o2 + 1), [.obj [vi 0, vi 0, vi 0], .obj [vi o0, vi o1, vi o2]])] [(0, .y (.one (sv NI b nil capd l))), (1, xi hand), (2, xi turns), (6, .y (.one (.ptr 0 0))), (8, .y (.one (.ptr 1 0))), (9, xi (l.length : Int)), (11, xi kx)] [.obj [vi 0, vi 0, vi 0], .obj [vi o0, vi o1, vi (o2 + 1)]]
                  (cast (And.intro (ob_raw (P := pg) (A := an) (vals := [xi o2, xi 1]) (H := [.obj [vi 0, vi 0, vi 0], .obj [vi o0, vi o1, vi o2]]) (op := .binOp .add 3 (.tmp 0) (.tmp 1) 3) (ty := 0) (r := xi (IntKind.wrap .i64 (o2 + 1))) (v := xi (o2 + 1)) (by kernel_rfl) (congrArg (fun z => xi z) ((wrap64 (by omega)).trans (by omega)))) trivial) (by kernel_rfl)) (by kernel_rfl) ?_
                refine Wp.region [(1, xi (kx + 1), [.obj [vi 0, vi 0, vi 0], .obj [vi o0, vi o1, vi (o2 + 1)]])] [(0, .y (.one (sv NI b nil capd l))), (1, xi hand), (2, xi turns), (6, .y (.one (.ptr 0 0))), (8, .y (.one (.ptr 1 0))), (9, xi (l.length : Int)), (11, xi (kx + 1))] [.obj [vi 0, vi 0, vi 0], .obj [vi o0, vi o1, vi (o2 + 1)]]
                  (cast (And.intro (ob_raw (P := pg) (A := an) (vals := [xi kx, xi 1]) (H := [.obj [vi 0, vi 0, vi 0], .obj [vi o0, vi o1, vi (o2 + 1)]]) (op := .binOp .add 3 (.tmp 0) (.tmp 1) 3) (ty := 0) (r := xi (IntKind.wrap .i64 (kx + 1))) (v := xi (kx + 1)) (by kernel_rfl) (congrArg (fun z => xi z) ((wrap64 (by omega)).trans (by omega)))) trivial) (by kernel_rfl)) (by kernel_rfl) ?_
                exact ⟨((kx + 1), o0, o1, (o2 + 1)), by kernel_rfl, (by exact ⟨by omega, by omega, cyc_miss (by omega) hx23 (by decide) j0, cyc_miss (by omega) hx23 (by decide) j1, cyc_hit (by omega) hx23 j2⟩), (by show (_ : Nat) < _; simp only []; omega)⟩
            ·
              refine Wp.regionSeq [(3, xi (turns % (l.length : Int)), [.obj [vi 0, vi 0, vi 0], .obj [vi o0, vi o1, vi o2]]), (4, xb false, [.obj [vi 0, vi 0, vi 0], .obj [vi o0, vi o1, vi o2]])] [(0, .y (.one (sv NI b nil capd l))), (1, xi hand), (2, xi turns), (6, .y (.one (.ptr 0 0))), (8, .y (.one (.ptr 1 0))), (9, xi (l.length : Int)), (11, xi kx), (56, xb false)] [.obj [vi 0, vi 0, vi 0], .obj [vi o0, vi o1, vi o2]]
                (cast (And.intro (ob_rem (P := pg) (A := an) (H := [.obj [vi 0, vi 0, vi 0], .obj [vi o0, vi o1, vi o2]]) (t := 3) (u := 3) (ty := 0) (a := turns) (b := (l.length : Int)) (by omega) (by omega)) (And.intro (ob_raw (P := pg) (A := an) (vals := [xi kx, xi (turns % (l.length : Int))]) (H := [.obj [vi 0, vi 0, vi 0], .obj [vi o0, vi o1, vi o2]]) (op := .binOp .lss 3 (.tmp 0) (.tmp 1) 3) (ty := 0) (r := xb (decide ((kx : Int) < (turns % (l.length : Int))))) (v := xb false) (by kernel_rfl) (congrArg (fun z => xb z) (decide_eq_false (by omega)))) trivial)) (by kernel_rfl)) (by kernel_rfl) ?_
              refine Wp.condF (by kernel_rfl) ?_
              refine Wp.exit ?_
              refine Eq.mpr (if_pos rfl) ?_
              refine Wp.regionSeq [] [(6, .y (.one (.ptr 0 0))), (7, xi 0)] [.obj [vi o0, vi o1, vi o2], .obj [vi o0, vi o1, vi o2]]
                (cast trivial (by kernel_rfl)) (by kernel_rfl) ?_
              refine Wp.ret ?_
              exact ⟨Or.inr rfl, [.agg [vi o0, vi o1, vi o2], .one (vi 0)], by kernel_rfl, (by have hp : srvW l hand turns = ((o0, o1, o2), 0) := by { rw [srvW, c1, if_neg (by decide), if_neg (by omega)]; rw [show kx = turns % (l.length : Int) by omega] at j0 j1 j2; rw [j0, j1, j2]; rfl }; rw [hp]; rfl)⟩
  ·
    refine Wp.regionSeq [(1, xi 20, [.obj [vi 0, vi 0, vi 0], .obj [vi 0, vi 0, vi 0]])] [(0, .y (.one (sv NI b nil capd l))), (1, xi hand), (2, xi turns), (6, .y (.one (.ptr 0 0))), (8, .y (.one (.ptr 1 0))), (15, xb true)] [.obj [vi 0, vi 0, vi 0], .obj [vi 0, vi 0, vi 0]]
      (cast (And.intro (ob_pure (P := pg) (A := an) (H := [.obj [vi 0, vi 0, vi 0], .obj [vi 0, vi 0, vi 0]]) (g := 14) (vals := [.y (.one (sv NI b nil capd l))]) (xs0 := [.one (sv NI b nil capd l)]) (xs1 := [.one (sv NI b nil capd l)]) (res := [.one (vi 20)]) (ats := #[]) (ty := 0) (v := xi 20) [.tmp 0] (by kernel_rfl) (by kernel_rfl) (by kernel_rfl) (by have := fn14 b nil capd l (by omega); rw [c1] at this; exact this) (by kernel_rfl)) trivial) (by kernel_rfl)) (by kernel_rfl) ?_
    refine Wp.condT (by kernel_rfl) ?_
    refine Wp.regionSeq [] [(6, .y (.one (.ptr 0 0))), (7, xi 20)] [.obj [vi 0, vi 0, vi 0], .obj [vi 0, vi 0, vi 0]]
      (cast trivial (by kernel_rfl)) (by kernel_rfl) ?_
    refine Wp.ret ?_
    exact ⟨Or.inr rfl, [.agg [vi 0, vi 0, vi 0], .one (vi 20)], by kernel_rfl, (by have hp : srvW l hand turns = ((0, 0, 0), 20) := by { rw [srvW, c1]; rfl }; rw [hp]; rfl)⟩
end Go.Proofs.Ytoieblpjklbmoaa
