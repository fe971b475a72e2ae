/- Lemmas. -/
import Derived.Test.YtbkdpmkjcoaapaaR28SG
namespace Go.Proofs.Ytbkdpmkjcoaapaa
open Go.Lg
set_option linter.unusedVariables false
set_option maxRecDepth 100000
set_option maxHeartbeats 8000000
set_option linter.unusedSimpArgs false
theorem restq (R : HP) (H : HH) (s rr : Nat) (c : C) (l : List Int) (r tk last : Int) (hs : On [R, pts s (.obj [vb true, vi 1, vi r, vi tk, kids, rowC rr 0 ([true, true, true] : List Bool).length 0 (([true, true, true] : List Bool).length) false, c, vi last, vb false]), pts rr (rowO BB true 0 ([true, true, true] : List Bool)), partP NI c l] H) (h1 : 1 ≤ (l.length : Int)) (hll : (l.length : Int) ≤ 1048577) : ∃ rs H', Runs pg an 12 [.one (.ptr s 0)] H rs H' ∧ ∃ k2, rs = [.one (rff k2 l)] ∧ On [R, pts s (.obj [vb true, vi 1, vi r, vi tk, kids, rowC rr 0 ([true, true, true] : List Bool).length 0 (([true, true, true] : List Bool).length) false, c, vi last, vb false]), pts rr (rowO BB true 0 ([true, true, true] : List Bool)), partP NI c l, pts k2 (rowO NI true 0 l)] H' := by
 obtain ⟨rfl, hl3, hs1⟩ | ⟨k4, L5, rfl, hle6, hlt7, hs2⟩ := part_open hs 3 rfl
 ·
  have hl3n : (l.length : Int) = 0 := by rw [hl3]; rfl
  exfalso; omega
 have hl8 : (L5.drop 0).take l.length = l := by rw [ec_]; exact hlt7
 refine rOF Try.func12 rfl ?_
 refine rs0 [(0, yp s)] ?_
 refine wS ?_
 have hcall9 : Runs pg an 20 [.one (.ptr s 0)] H [.one (vb true)] H := by
  refine runs_of ?_
  refine rOF Try.func20 rfl ?_
  refine rs0 [(0, yp s)] ?_
  refine rSz [(2, xb true)] H (zL 6 (qL 4 0 (.one (vb true)) (On.at hs2 1 rfl))) ?_
  refine wE ?_
  exact ⟨Or.inr rfl, [.one (vb true)], (by kernel_rfl), ⟨rfl, rfl⟩⟩
 refine rSz [(0, yp s), (5, xb false)] H (zL 1 (qC1 hcall9)) ?_
 refine wFk ?_
 obtain ⟨n11, hn11⟩ := lX H
 have hcall12 : Runs pg an 30 [.one (rowC k4 0 L5.length 0 l.length false)] H [.one (rff n11 l)] (H ++ [rowO NI true 0 l]) := by
  refine runs_of ?_
  refine rOF Try.func30 rfl ?_
  refine rs0 [(0, .y (.one (rowC k4 0 L5.length 0 l.length false)))] ?_
  refine wS ?_
  refine rs0 [(0, .y (.one (rowC k4 0 L5.length 0 l.length false))), (4, xb false)] ?_
  refine wFk ?_
  refine rSz [(2, .y (.one (rff n11 l)))] (H ++ [rowO NI true 0 l]) (zL 2 (Jf (H := H) (s := NI) (t := 22) (u := 22) (el := 3) (by_ := 8) (z := [vi 0]) (ty := 0) (b' := false) (nil' := false) (pu := true) (puy := true) (m := l.length) (n' := l.length) (k := n11) (nl := 0) (l := ([] : List Int)) (lm := l) (l' := l) (y := rowC k4 0 L5.length 0 l.length false) hn11 (by first | rfl | omega | (simp only [ek_]; omega) | (simp; done) | (simp; omega)) (by kernel_rfl) (slCells_rowO (H := H) (s := NI) (pu := true) (capd := false) (id := k4) (d := 0) (o := 0) (n := l.length) (l := L5) (m := l) (On.at hs2 3 rfl) (by first | rfl | omega | (simp only [ek_]; omega) | (simp; done) | (simp; omega)) (hl8)) (by kernel_rfl) (by kernel_rfl) (by kernel_rfl) (by kernel_rfl) (by kernel_rfl) (by kernel_rfl) (by kernel_rfl) (by first | rfl | omega | (simp only [ek_]; omega) | (simp; done) | (simp; omega)) (by first | rfl | omega | (simp only [ek_]; omega) | (simp; done) | (simp; omega)) (by omega) (by omega) (ea_ _) (by first | rfl | omega | (simp only [ej_, ek_]; omega) | (simp; done) | (simp; omega)))) ?_
  refine wE ?_
  exact ⟨Or.inr rfl, [.one (rff n11 l)], (by kernel_rfl), ⟨rfl, rfl⟩⟩
 refine rGz [(2, .y (.one (rff n11 l)))] (On.new' hn11 (rowO NI true 0 l) hs2) (zA 3 (qL 22 6 (.one (rowC k4 0 L5.length 0 l.length false)) (On.at hs2 1 rfl)) (zL 4 (qC1 hcall12))) fun H13 hs14 => ?_
 refine wE ?_
 refine ⟨Or.inr rfl, [.one (rff n11 l)], (by kernel_rfl), ?_⟩
 have hs15 : On [R, pts s (.obj [vb true, vi 1, vi r, vi tk, kids, rowC rr 0 ([true, true, true] : List Bool).length 0 (([true, true, true] : List Bool).length) false, rowC k4 0 L5.length 0 l.length false, vi last, vb false]), pts rr (rowO BB true 0 ([true, true, true] : List Bool)), pts n11 (rowO NI true 0 l), partP NI (rowC k4 0 L5.length 0 l.length false) l] H13 := sH hs14 [3] [0, 1, 2, 4] (fun _ x => part_row (by rfl) (by omega) (hlt7) x)
 exact ⟨n11, rfl, (On.pick [0, 1, 2, 4, 3] [] (by kernel_rfl) hs15)⟩
end Go.Proofs.Ytbkdpmkjcoaapaa
