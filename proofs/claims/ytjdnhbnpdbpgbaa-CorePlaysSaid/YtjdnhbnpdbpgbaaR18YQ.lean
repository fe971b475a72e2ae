/- Lemmas. -/
import Derived.Test.YtjdnhbnpdbpgbaaR18YP
namespace Go.Proofs.Ytjdnhbnpdbpgbaa
open Go.Lg
set_option linter.unusedVariables false
set_option maxRecDepth 100000
set_option maxHeartbeats 8000000
set_option linter.unusedSimpArgs false
abbrev OPE : Sh := .pr NI (.pr NI (.pr NI (.pr NI (.pr NI (.pr PN (.pr (.sl 24 EN) (.pr (.sl 8 NI) .nil)))))))
theorem fn6 (b nil capd : Bool) (sc : List OPE.T) (hs0 : (sc.length : Int) ≤ 17592186044416) (hsc : ∀ x ∈ sc, -9223372036854775808 ≤ x.2.2.2.2.1 ∧ x.2.2.2.2.1 ≤ 9223372036854775807 ∧ (x.2.2.2.2.2.2.1.2.length : Int) ≤ 5864062014805 ∧ (x.2.2.2.2.2.2.2.1.2.length : Int) ≤ 17592186043904 ∧ (okW x.2.2.2.2.2.2.2.1.2 = true → x.2.2.2.2.2.2.2.1.1 = false))  : PureC pg an 6 [.one (sv OPE b nil capd sc)] [.one (vb true)] := by
 refine rOF Try.func6 rfl ?_
 refine rs0 [(0, .y (.one (sv OPE b nil capd sc)))] ?_
 obtain ⟨n1, hn1⟩ := lX []
 refine rGz [(0, .y (.one (sv OPE b nil capd sc))), (3, yp n1)] (On.new' hn1 (.obj [.sc (.pointer none), .sc (.pointer none), .sc (.pointer none), nilC, vi 0, nilC, nilC, nilC, nilC, vi 0, nilC, nilC, nilC, nilC, vi 0, nilC, nilC, nilC, vb false, vb false, vb false]) (On.nil [])) (zL 1 (qB 70 [.sc (.pointer none), .sc (.pointer none), .sc (.pointer none), nilC, vi 0, nilC, nilC, nilC, nilC, vi 0, nilC, nilC, nilC, nilC, vi 0, nilC, nilC, nilC, vb false, vb false, vb false] hn1)) fun H2 hs3 => ?_
 refine wS ?_
 refine rs0 [(0, .y (.one (sv OPE b nil capd sc))), (3, yp n1), (4, xi 0)] ?_
 refine wB ?_
 have hs4 : On [allP n1] H2 := sH hs3 [0] [] (fun _ x => all_zero x)
 refine Wp.loop (T := HH × Int) (fun t => match t with | (H6, i) => (((sc.length : Int) - i).toNat : Nat)) (fun t => match t with | (H6, i) => ([(0, .y (.one (sv OPE b nil capd sc))), (3, yp n1), (4, xi i)] : Env)) (fun t => match t with | (H6, i) => (H6 : HH))
   (fun t => match t with | (H6, i) => (On [allP n1] H6 ∧ (0 ≤ i) ∧ (i ≤ (sc.length : Int)) : Prop)) (H2, 0) (by kernel_rfl) (⟨(On.pick [0] [] (by kernel_rfl) hs4), by omega, by omega⟩) ?_
 rintro ⟨H6, i⟩ ⟨hs7, g1, g2⟩
 show Wp _ _ _ _ [(0, .y (.one (sv OPE b nil capd sc))), (3, yp n1), (4, xi i)] H6 _
 refine wS ?_
 by_cases c8 : (i : Int) < (sc.length : Int)
 ·
  refine rSz [(0, .y (.one (sv OPE b nil capd sc))), (3, yp n1), (4, xi i), (10, xb true)] H6 (zL 3 (qlssT H6 i (sc.length : Int))) ?_
  refine wTk ?_
  refine wS (wB ?_)
  obtain ⟨x9, hx9⟩ : ∃ x, sc[(i : Int).toNat]? = some x := get_of (by omega)
  obtain ⟨hv10a, hv10b, hv10c, hv10d, hv10e⟩ := hsc x9 (List.mem_of_getElem? hx9)
  obtain ⟨_, H11, hr12, rfl, hs13⟩ := step_ok _ (H6 : HH) (On.call [0] [] (by kernel_rfl) hs7) (p := n1) (kind := x9.1) (on := x9.2.1) (at_ := x9.2.2.1) (cls := x9.2.2.2.1) (nn := x9.2.2.2.2.1) (pa := x9.2.2.2.2.2.1.1) (pb := x9.2.2.2.2.2.1.2.1) (b := false) (nil := x9.2.2.2.2.2.2.1.1) (cc := x9.2.2.2.2.2.2.1.1) (b3 := false) (nil3 := x9.2.2.2.2.2.2.2.1.1) (cc3 := x9.2.2.2.2.2.2.2.1.1) (lo := x9.2.2.2.2.2.2.1.2) (so := x9.2.2.2.2.2.2.2.1.2) (by omega) (by omega) (by omega) (by omega) hv10e
  have hs13 : On [allP n1] H11 := On.flat hs13
  refine rGz [(0, .y (.one (sv OPE b nil capd sc))), (3, yp n1), (4, xi i), (19, xb false)] hs13 (zA 3 (Jb (H := H6) (s := OPE) (b := b) (nil := nil) (capd := capd) (t := 64) (el := 73) (i := i) Try.underlying64 (by kernel_rfl) (by kernel_rfl) (by omega) hx9) (zL 5 (qC2 hr12))) fun H14 hs15 => ?_
  refine wFk ?_
  refine rRz [(0, .y (.one (sv OPE b nil capd sc))), (3, yp n1), (4, xi (i + 1))] H14 (zL 1 (qoAdd H14 i 1 (i + 1))) ?_
  exact ⟨(H14, (i + 1)), by kernel_rfl, (⟨(On.pick [0] [] (by kernel_rfl) hs15), by omega, by omega⟩), (by show (_ : Nat) < _; simp only []; omega)⟩
 refine rSz [(0, .y (.one (sv OPE b nil capd sc))), (3, yp n1), (4, xi i), (10, xb false)] H6 (zL 3 (qlssF H6 i (sc.length : Int))) ?_
 refine wFa ?_
 refine wX ?_
 refine Eq.mpr (if_pos rfl) ?_
 obtain ⟨_, H16, hr17, rfl, hs18⟩ := told_ok _ (H6 : HH) (On.call [0] [] (by kernel_rfl) hs7) (p := n1) (i := 0) (by omega) (by omega)
 have hs18 : On [allP n1] H16 := On.flat hs18
 obtain ⟨_, H19, hr20, rfl, hs21⟩ := told_ok _ (H16 : HH) (On.call [0] [] (by kernel_rfl) hs18) (p := n1) (i := 1) (by omega) (by omega)
 have hs21 : On [allP n1] H19 := On.flat hs21
 obtain ⟨_, H22, hr23, rfl, hs24⟩ := told_ok _ (H19 : HH) (On.call [0] [] (by kernel_rfl) hs21) (p := n1) (i := 2) (by omega) (by omega)
 have hs24 : On [allP n1] H22 := On.flat hs24
 obtain ⟨_, H25, hr26, rfl, hs27⟩ := told_ok _ (H22 : HH) (On.call [0] [] (by kernel_rfl) hs24) (p := n1) (i := 0) (by omega) (by omega)
 have hs27 : On [allP n1] H25 := On.flat hs27
 refine rGz [(2, xb true)] hs27 (zA 1 (qC2 hr17) (zA 4 (qC2 hr20) (zA 8 (qC2 hr23) (zA 12 (qC2 hr26) (zL 15 (Jj (H := H25) (g := 11) (vals := []) (xs0 := []) (xs1 := []) (res := [.one (vb true)]) (ats := #[]) (ty := 0) (v := xb true) [] (by kernel_rfl) (by kernel_rfl) (snap_nil) fn11 (by kernel_rfl))))))) fun H28 hs29 => ?_
 refine wE ?_
 refine ⟨Or.inr rfl, [.one (vb true)], (by kernel_rfl), ?_⟩
 exact (by kernel_rfl)
end Go.Proofs.Ytjdnhbnpdbpgbaa
