/- Lemmas. -/
import Derived.Test.YtjdnhbnpdbpgbaaR18YA
import Derived.Test.YtjdnhbnpdbpgbaaX33
namespace Go.Proofs.Ytjdnhbnpdbpgbaa
open Go.Lg
set_option linter.unusedVariables false
set_option maxRecDepth 100000
set_option maxHeartbeats 8000000
set_option linter.unusedSimpArgs false
theorem rstands_0 (rb rn rc w0 u0 v0 w1 u1 v1 w2 u2 v2 : Bool) (S : List Int) (hand : Int) (l0 l1 l2 : List EN.T) (p : PN.T) (b0 : (l0.length : Int) ≤ 70368744177664) (b1 : (l1.length : Int) ≤ 70368744177664) (b2 : (l2.length : Int) ≤ 70368744177664) (h0 : 0 ≤ posI p l0)  : PureC pg an 28 [.agg (gW rb rn rc w0 u0 v0 w1 u1 v1 w2 u2 v2 S hand l0 l1 l2), .agg [vi p.1, vi p.2.1]] [.one (vb true)] := by
 refine rOF Try.func28 rfl ?_
 obtain ⟨n1, hn1⟩ := lX []
 obtain ⟨n2, hn2⟩ := lX ([] ++ [.obj (gW rb rn rc w0 u0 v0 w1 u1 v1 w2 u2 v2 S hand l0 l1 l2)])
 refine rGz [(2, yp n1), (3, yp n2)] (On.new' hn2 (.obj [vi p.1, vi p.2.1]) (On.new' hn1 (.obj (gW rb rn rc w0 u0 v0 w1 u1 v1 w2 u2 v2 S hand l0 l1 l2)) (On.nil []))) (zA 0 (qB 31 (gW rb rn rc w0 u0 v0 w1 u1 v1 w2 u2 v2 S hand l0 l1 l2) hn1) (zL 1 (qB 38 [vi p.1, vi p.2.1] hn2))) fun H3 hs4 => ?_
 have hz5 := posI_bd p l0
 have hz7 := posI_bd p l1
 have hz10 := posI_bd p l2
 refine rSz [(7, xi 0)] H3 (zA 0 (qA 31 (On.at hs4 0 rfl)) (zA 1 (qL 38 0 (.agg [vi p.1, vi p.2.1]) (On.at hs4 1 rfl)) (zL 2 (qP2 H3 (rfind_0 rb rn rc w0 u0 v0 w1 u1 v1 w2 u2 v2 S hand l0 l1 l2 p (by first | rfl | omega | (simp only [ek_]; omega) | (simp; done) | (simp; omega)) (by first | rfl | omega | (simp only [ek_]; omega) | (simp; done) | (simp; omega)) (by first | rfl | omega | (simp only [ek_]; omega) | (simp; done) | (simp; omega)) (by omega)))))) ?_
 refine rs0 [(4, xb true)] ?_
 refine wE ?_
 refine ⟨Or.inr rfl, [.one (vb true)], (by kernel_rfl), ?_⟩
 exact (by kernel_rfl)
theorem rstands_1 (rb rn rc w0 u0 v0 w1 u1 v1 w2 u2 v2 : Bool) (S : List Int) (hand : Int) (l0 l1 l2 : List EN.T) (p : PN.T) (b0 : (l0.length : Int) ≤ 70368744177664) (b1 : (l1.length : Int) ≤ 70368744177664) (b2 : (l2.length : Int) ≤ 70368744177664) (h0 : posI p l0 < 0) (h1 : 0 ≤ posI p l1)  : PureC pg an 28 [.agg (gW rb rn rc w0 u0 v0 w1 u1 v1 w2 u2 v2 S hand l0 l1 l2), .agg [vi p.1, vi p.2.1]] [.one (vb true)] := by
 refine rOF Try.func28 rfl ?_
 obtain ⟨n1, hn1⟩ := lX []
 obtain ⟨n2, hn2⟩ := lX ([] ++ [.obj (gW rb rn rc w0 u0 v0 w1 u1 v1 w2 u2 v2 S hand l0 l1 l2)])
 refine rGz [(2, yp n1), (3, yp n2)] (On.new' hn2 (.obj [vi p.1, vi p.2.1]) (On.new' hn1 (.obj (gW rb rn rc w0 u0 v0 w1 u1 v1 w2 u2 v2 S hand l0 l1 l2)) (On.nil []))) (zA 0 (qB 31 (gW rb rn rc w0 u0 v0 w1 u1 v1 w2 u2 v2 S hand l0 l1 l2) hn1) (zL 1 (qB 38 [vi p.1, vi p.2.1] hn2))) fun H3 hs4 => ?_
 have hz5 := posI_bd p l0
 have hz7 := posI_bd p l1
 have hz10 := posI_bd p l2
 refine rSz [(7, xi 0)] H3 (zA 0 (qA 31 (On.at hs4 0 rfl)) (zA 1 (qL 38 0 (.agg [vi p.1, vi p.2.1]) (On.at hs4 1 rfl)) (zL 2 (qP2 H3 (rfind_1 rb rn rc w0 u0 v0 w1 u1 v1 w2 u2 v2 S hand l0 l1 l2 p (by first | rfl | omega | (simp only [ek_]; omega) | (simp; done) | (simp; omega)) (by first | rfl | omega | (simp only [ek_]; omega) | (simp; done) | (simp; omega)) (by first | rfl | omega | (simp only [ek_]; omega) | (simp; done) | (simp; omega)) (by omega) (by omega)))))) ?_
 refine rs0 [(4, xb true)] ?_
 refine wE ?_
 refine ⟨Or.inr rfl, [.one (vb true)], (by kernel_rfl), ?_⟩
 exact (by kernel_rfl)
theorem rstands_2 (rb rn rc w0 u0 v0 w1 u1 v1 w2 u2 v2 : Bool) (S : List Int) (hand : Int) (l0 l1 l2 : List EN.T) (p : PN.T) (b0 : (l0.length : Int) ≤ 70368744177664) (b1 : (l1.length : Int) ≤ 70368744177664) (b2 : (l2.length : Int) ≤ 70368744177664) (h0 : posI p l0 < 0) (h1 : posI p l1 < 0) (h2 : 0 ≤ posI p l2)  : PureC pg an 28 [.agg (gW rb rn rc w0 u0 v0 w1 u1 v1 w2 u2 v2 S hand l0 l1 l2), .agg [vi p.1, vi p.2.1]] [.one (vb true)] := by
 refine rOF Try.func28 rfl ?_
 obtain ⟨n1, hn1⟩ := lX []
 obtain ⟨n2, hn2⟩ := lX ([] ++ [.obj (gW rb rn rc w0 u0 v0 w1 u1 v1 w2 u2 v2 S hand l0 l1 l2)])
 refine rGz [(2, yp n1), (3, yp n2)] (On.new' hn2 (.obj [vi p.1, vi p.2.1]) (On.new' hn1 (.obj (gW rb rn rc w0 u0 v0 w1 u1 v1 w2 u2 v2 S hand l0 l1 l2)) (On.nil []))) (zA 0 (qB 31 (gW rb rn rc w0 u0 v0 w1 u1 v1 w2 u2 v2 S hand l0 l1 l2) hn1) (zL 1 (qB 38 [vi p.1, vi p.2.1] hn2))) fun H3 hs4 => ?_
 have hz5 := posI_bd p l0
 have hz7 := posI_bd p l1
 have hz10 := posI_bd p l2
 refine rSz [(7, xi 0)] H3 (zA 0 (qA 31 (On.at hs4 0 rfl)) (zA 1 (qL 38 0 (.agg [vi p.1, vi p.2.1]) (On.at hs4 1 rfl)) (zL 2 (qP2 H3 (rfind_2 rb rn rc w0 u0 v0 w1 u1 v1 w2 u2 v2 S hand l0 l1 l2 p (by first | rfl | omega | (simp only [ek_]; omega) | (simp; done) | (simp; omega)) (by first | rfl | omega | (simp only [ek_]; omega) | (simp; done) | (simp; omega)) (by first | rfl | omega | (simp only [ek_]; omega) | (simp; done) | (simp; omega)) (by omega) (by omega) (by omega)))))) ?_
 refine rs0 [(4, xb true)] ?_
 refine wE ?_
 refine ⟨Or.inr rfl, [.one (vb true)], (by kernel_rfl), ?_⟩
 exact (by kernel_rfl)
theorem rstands_3 (rb rn rc w0 u0 v0 w1 u1 v1 w2 u2 v2 : Bool) (S : List Int) (hand : Int) (l0 l1 l2 : List EN.T) (p : PN.T) (b0 : (l0.length : Int) ≤ 70368744177664) (b1 : (l1.length : Int) ≤ 70368744177664) (b2 : (l2.length : Int) ≤ 70368744177664) (h0 : posI p l0 < 0) (h1 : posI p l1 < 0) (h2 : posI p l2 < 0)  : PureC pg an 28 [.agg (gW rb rn rc w0 u0 v0 w1 u1 v1 w2 u2 v2 S hand l0 l1 l2), .agg [vi p.1, vi p.2.1]] [.one (vb false)] := by
 refine rOF Try.func28 rfl ?_
 obtain ⟨n1, hn1⟩ := lX []
 obtain ⟨n2, hn2⟩ := lX ([] ++ [.obj (gW rb rn rc w0 u0 v0 w1 u1 v1 w2 u2 v2 S hand l0 l1 l2)])
 refine rGz [(2, yp n1), (3, yp n2)] (On.new' hn2 (.obj [vi p.1, vi p.2.1]) (On.new' hn1 (.obj (gW rb rn rc w0 u0 v0 w1 u1 v1 w2 u2 v2 S hand l0 l1 l2)) (On.nil []))) (zA 0 (qB 31 (gW rb rn rc w0 u0 v0 w1 u1 v1 w2 u2 v2 S hand l0 l1 l2) hn1) (zL 1 (qB 38 [vi p.1, vi p.2.1] hn2))) fun H3 hs4 => ?_
 have hz5 := posI_bd p l0
 have hz7 := posI_bd p l1
 have hz10 := posI_bd p l2
 refine rSz [(7, xi 3)] H3 (zA 0 (qA 31 (On.at hs4 0 rfl)) (zA 1 (qL 38 0 (.agg [vi p.1, vi p.2.1]) (On.at hs4 1 rfl)) (zL 2 (qP2 H3 (rfind_3 rb rn rc w0 u0 v0 w1 u1 v1 w2 u2 v2 S hand l0 l1 l2 p (by first | rfl | omega | (simp only [ek_]; omega) | (simp; done) | (simp; omega)) (by first | rfl | omega | (simp only [ek_]; omega) | (simp; done) | (simp; omega)) (by first | rfl | omega | (simp only [ek_]; omega) | (simp; done) | (simp; omega)) (by omega) (by omega) (by omega)))))) ?_
 refine rs0 [(4, xb false)] ?_
 refine wE ?_
 refine ⟨Or.inr rfl, [.one (vb false)], (by kernel_rfl), ?_⟩
 exact (by kernel_rfl)
theorem rclass_in (k : Int) (h0 : 0 ≤ k) (h1 : k < 3)  : PureC pg an 66 [.one (vi k)] [.one (vb true)] := by
 refine rOF Try.func66 rfl ?_
 refine rs0 [(0, xi k)] ?_
 refine rSz [(2, xb true)] [] (zA 1 (qgeqT [] k 0) (zL 4 (qlssT [] k 3))) ?_
 refine wE ?_
 refine ⟨Or.inr rfl, [.one (vb true)], (by kernel_rfl), ?_⟩
 exact (by kernel_rfl)
theorem rclass_low (k : Int) (h0 : k < 0)  : PureC pg an 66 [.one (vi k)] [.one (vb false)] := by
 refine rOF Try.func66 rfl ?_
 refine rs0 [(0, xi k)] ?_
 refine rSz [(2, xb false)] [] (zL 1 (qgeqF [] k 0)) ?_
 refine wE ?_
 refine ⟨Or.inr rfl, [.one (vb false)], (by kernel_rfl), ?_⟩
 exact (by kernel_rfl)
theorem rclass_high (k : Int) (h0 : 3 ≤ k)  : PureC pg an 66 [.one (vi k)] [.one (vb false)] := by
 refine rOF Try.func66 rfl ?_
 refine rs0 [(0, xi k)] ?_
 refine rSz [(2, xb false)] [] (zA 1 (qgeqT [] k 0) (zL 4 (qlssF [] k 3))) ?_
 refine wE ?_
 refine ⟨Or.inr rfl, [.one (vb false)], (by kernel_rfl), ?_⟩
 exact (by kernel_rfl)
theorem rwithout (b nil cc : Bool) (l : List EN.T) (i : Int) (hl : (l.length : Int) ≤ 65536) (h0 : 0 ≤ i) (h1 : i < l.length)  : ∃ nl : Bool, ∃ cp : Bool, PureC pg an 36 [.one (sv EN b nil cc l), .one (vi i)] [.one (sv EN false nl cp (l.take i.toNat ++ l.drop (i + 1).toNat))] := by
 refine pE2 (rOF Try.func36 rfl ?_)
 refine rs0 [(0, .y (.one (sv EN b nil cc l))), (1, xi i)] ?_
 refine rs0 [(0, .y (.one (sv EN b nil cc l))), (1, xi i), (5, .y (.one (nilC)))] ?_
 have hslz1 : ((l.take (i : Int).toNat).length : Int) = i := by { first | omega | (simp; done) | (simp; omega) }
 obtain ⟨cv3, H4, ho5, hs6⟩ := or_append_nil (P := pg) (A := an) (s := EN) (t := 23) (u := 23) (el := 40) (by_ := 24) (z := [vi 0, vi 0, vb false]) (ty := 0) (y := sv EN b nil false (l.take (i : Int).toNat)) (lm := (l.take (i : Int).toNat)) (m := ((l.take (i : Int).toNat).length)) (On.nil []) ((slCells_slO (H := []) (s := EN) (b := b) (nil := nil) (capd := false) (l := (l.take (i : Int).toNat)) (n := ((l.take (i : Int).toNat).length)) (by first | rfl | omega | (simp only [ek_]; omega) | (simp; done) | (simp; omega)))) (by kernel_rfl) (by kernel_rfl) (by kernel_rfl) (by kernel_rfl) (by kernel_rfl) (by kernel_rfl) (by kernel_rfl) (by first | rfl | omega | (simp only [ek_]; omega) | (simp; done) | (simp; omega)) (by omega) (by omega)
 have hs6l : ((l.take (i : Int).toNat).length : Int) = ((l.take (i : Int).toNat).length : Int) := by { first | omega | (simp only [ej_]; omega) | (simp; done) | (simp; omega) }
 refine rGz [(0, .y (.one (sv EN b nil cc l))), (1, xi i), (5, .y (.one (cv3)))] hs6 (zA 3 (Jq (H := []) (s := EN) (t := 23) (el := 40) (ty := 0) (b := b) (nil := nil) (capd := cc) (capd' := false) (l := l) (m := (l.take (i : Int).toNat)) (h := i) (by kernel_rfl) (by kernel_rfl) (by first | omega | (simp; done) | (simp; omega)) (by first | omega | (simp; done) | (simp; omega)) (by first | rfl | (rw [decide_eq_true (by omega), Bool.and_true]) | (rw [decide_eq_false (by omega), Bool.and_false]) | (simp; omega)) (by rfl)) (zL 4 ho5)) fun H8 hs9 => ?_
 have hslz10 : ((l.drop ((i + 1) : Int).toNat).length : Int) = ((l.length : Int) - i - 1) := by { first | omega | (simp; done) | (simp; omega) }
 obtain ⟨cv12, H13, ho14, hs15⟩ := or_append_items (P := pg) (A := an) (s := EN) (t := 23) (u := 23) (el := 40) (by_ := 24) (z := [vi 0, vi 0, vb false]) (ty := 0) (y := sv EN b nil cc (l.drop ((i + 1) : Int).toNat)) (lm := (l.drop ((i + 1) : Int).toNat)) (m := ((l.drop ((i + 1) : Int).toNat).length)) hs9 0 rfl ((slCells_slO (H := H8) (s := EN) (b := b) (nil := nil) (capd := cc) (l := (l.drop ((i + 1) : Int).toNat)) (n := ((l.drop ((i + 1) : Int).toNat).length)) (by first | rfl | omega | (simp only [ek_]; omega) | (simp; done) | (simp; omega)))) (by kernel_rfl) (by kernel_rfl) (by kernel_rfl) (by kernel_rfl) (by kernel_rfl) (by kernel_rfl) (by kernel_rfl) (by first | rfl | omega | (simp only [ek_]; omega) | (simp; done) | (simp; omega)) (by omega) (by omega)
 have hs15l : (((l.take (i : Int).toNat) ++ (l.drop ((i + 1) : Int).toNat)).length : Int) = (((l.take (i : Int).toNat).length : Int) + ((l.drop ((i + 1) : Int).toNat).length : Int)) := by { first | omega | (simp only [ej_]; omega) | (simp; done) | (simp; omega) }
 refine rGz [(4, .y (.one (cv12)))] hs15 (zA 3 (qoAdd H8 i 1 (i + 1)) (zA 4 (Js (H := H8) (s := EN) (t := 23) (el := 40) (ty := 0) (b := b) (nil := nil) (capd := cc) (l := l) (m := (l.drop ((i + 1) : Int).toNat)) (a := (i + 1)) (by kernel_rfl) (by kernel_rfl) (by first | omega | (simp; done) | (simp; omega)) (by first | omega | (simp; done) | (simp; omega)) (by rfl)) (zL 5 ho14))) fun H17 hs18 => ?_
 refine wE ?_
 refine ⟨Or.inr rfl, [.one (cv12)], (by kernel_rfl), ?_⟩
 obtain ⟨fn19, fp20, hf21⟩ := items_back hs18 0 rfl
 have e9 : ((l.take (i : Int).toNat) ++ (l.drop ((i + 1) : Int).toNat)) = (l.take i.toNat ++ l.drop (i + 1).toNat) := by first | rfl | (simp; done) | (apply List.ext_getElem?; intro j; simp [eg_, ee_, ef_]; done) | first | rfl | (apply List.ext_getElem?; intro i; first | (simp only [ea_, eb_, ec_, ed_, ee_, ef_, eg_, eh_, ei_, ej_, ek_, el_, em_]; done) | ((try simp only [ea_, eb_, ec_, ed_, ee_, ef_, eg_, eh_, ei_, ej_, ek_, el_, em_]); (repeat' split) <;> first | rfl | (congr 1; omega) | (exfalso; omega) | (exact ep_ (by omega)) | (exact (ep_ (by omega)).symm)))
 rw [← e9]
 exact ⟨fn19, fp20, (back_cons (back_one hf21) rfl)⟩
theorem rpush_low (rn rc u0 v0 u1 v1 u2 v2 : Bool) (S : List Int) (hand : Int) (l0 l1 l2 : List EN.T) (k : Int) (p : PN.T) (b0 : (l0.length : Int) ≤ 64) (b1 : (l1.length : Int) ≤ 64) (b2 : (l2.length : Int) ≤ 64) (h0 : k < 0)  : PureC pg an 61 [.agg (wC rn rc u0 v0 u1 v1 u2 v2 S hand l0 l1 l2), .one (vi k), .agg [vi p.1, vi p.2.1]] [.agg (wC rn rc u0 v0 u1 v1 u2 v2 S hand l0 l1 l2), .one (vi 1)] := by
 refine rOF Try.func61 rfl ?_
 obtain ⟨n1, hn1⟩ := lX []
 obtain ⟨n2, hn2⟩ := lX ([] ++ [.obj (wC rn rc u0 v0 u1 v1 u2 v2 S hand l0 l1 l2)])
 obtain ⟨n3, hn3⟩ := lX (([] ++ [.obj (wC rn rc u0 v0 u1 v1 u2 v2 S hand l0 l1 l2)]) ++ [.obj [vi p.1, vi p.2.1]])
 refine rGz [(1, xi k), (3, yp n1), (5, yp n2), (6, yp n3)] (On.new' hn3 (.obj [nilC, vi 0, nilC, nilC, nilC]) (On.new' hn2 (.obj [vi p.1, vi p.2.1]) (On.new' hn1 (.obj (wC rn rc u0 v0 u1 v1 u2 v2 S hand l0 l1 l2)) (On.nil [])))) (zA 0 (qB 31 (wC rn rc u0 v0 u1 v1 u2 v2 S hand l0 l1 l2) hn1) (zA 1 (qB 38 [vi p.1, vi p.2.1] hn2) (zL 2 (qO 31 [nilC, vi 0, nilC, nilC, nilC] hn3)))) fun H4 hs5 => ?_
 refine wS ?_
 refine rSz [(1, xi k), (3, yp n1), (5, yp n2), (6, yp n3), (16, xb true)] H4 (zL 1 (qP1 H4 (rclass_low k (by omega)))) ?_
 refine wTa ?_
 refine rGz [(6, yp n3), (7, xi 1)] (On.put (.obj (wC rn rc u0 v0 u1 v1 u2 v2 S hand l0 l1 l2)) hs5 2 rfl) (zA 0 (qA 31 (On.at hs5 0 rfl)) (zL 1 (qS 31 0 (.agg (wC rn rc u0 v0 u1 v1 u2 v2 S hand l0 l1 l2)) (On.at hs5 2 rfl)))) fun H6 hs7 => ?_
 refine wE ?_
 refine ⟨Or.inr rfl, [.agg (wC rn rc u0 v0 u1 v1 u2 v2 S hand l0 l1 l2), .one (vi 1)], (rC (On.at hs7 2 rfl)), ?_⟩
 exact (by kernel_rfl)
theorem rpush_high (rn rc u0 v0 u1 v1 u2 v2 : Bool) (S : List Int) (hand : Int) (l0 l1 l2 : List EN.T) (k : Int) (p : PN.T) (b0 : (l0.length : Int) ≤ 64) (b1 : (l1.length : Int) ≤ 64) (b2 : (l2.length : Int) ≤ 64) (h0 : 3 ≤ k)  : PureC pg an 61 [.agg (wC rn rc u0 v0 u1 v1 u2 v2 S hand l0 l1 l2), .one (vi k), .agg [vi p.1, vi p.2.1]] [.agg (wC rn rc u0 v0 u1 v1 u2 v2 S hand l0 l1 l2), .one (vi 1)] := by
 refine rOF Try.func61 rfl ?_
 obtain ⟨n1, hn1⟩ := lX []
 obtain ⟨n2, hn2⟩ := lX ([] ++ [.obj (wC rn rc u0 v0 u1 v1 u2 v2 S hand l0 l1 l2)])
 obtain ⟨n3, hn3⟩ := lX (([] ++ [.obj (wC rn rc u0 v0 u1 v1 u2 v2 S hand l0 l1 l2)]) ++ [.obj [vi p.1, vi p.2.1]])
 refine rGz [(1, xi k), (3, yp n1), (5, yp n2), (6, yp n3)] (On.new' hn3 (.obj [nilC, vi 0, nilC, nilC, nilC]) (On.new' hn2 (.obj [vi p.1, vi p.2.1]) (On.new' hn1 (.obj (wC rn rc u0 v0 u1 v1 u2 v2 S hand l0 l1 l2)) (On.nil [])))) (zA 0 (qB 31 (wC rn rc u0 v0 u1 v1 u2 v2 S hand l0 l1 l2) hn1) (zA 1 (qB 38 [vi p.1, vi p.2.1] hn2) (zL 2 (qO 31 [nilC, vi 0, nilC, nilC, nilC] hn3)))) fun H4 hs5 => ?_
 refine wS ?_
 refine rSz [(1, xi k), (3, yp n1), (5, yp n2), (6, yp n3), (16, xb true)] H4 (zL 1 (qP1 H4 (rclass_high k (by omega)))) ?_
 refine wTa ?_
 refine rGz [(6, yp n3), (7, xi 1)] (On.put (.obj (wC rn rc u0 v0 u1 v1 u2 v2 S hand l0 l1 l2)) hs5 2 rfl) (zA 0 (qA 31 (On.at hs5 0 rfl)) (zL 1 (qS 31 0 (.agg (wC rn rc u0 v0 u1 v1 u2 v2 S hand l0 l1 l2)) (On.at hs5 2 rfl)))) fun H6 hs7 => ?_
 refine wE ?_
 refine ⟨Or.inr rfl, [.agg (wC rn rc u0 v0 u1 v1 u2 v2 S hand l0 l1 l2), .one (vi 1)], (rC (On.at hs7 2 rfl)), ?_⟩
 exact (by kernel_rfl)
theorem rpush (rn rc u0 v0 u1 v1 u2 v2 : Bool) (S : List Int) (hand : Int) (l0 l1 l2 : List EN.T) (kk : Int) (p : PN.T) (b0 : (l0.length : Int) ≤ 64) (b1 : (l1.length : Int) ≤ 64) (b2 : (l2.length : Int) ≤ 64) (hk0 : 0 ≤ kk) (hk1 : kk < 3)  : ((0 ≤ posI p l0 ∨ 0 ≤ posI p l1 ∨ 0 ≤ posI p l2) ∧ PureC pg an 61 [.agg (wC rn rc u0 v0 u1 v1 u2 v2 S hand l0 l1 l2), .one (vi kk), .agg [vi p.1, vi p.2.1]] [.agg (wC rn rc u0 v0 u1 v1 u2 v2 S hand l0 l1 l2), .one (vi 1)]) ∨ ((posI p l0 < 0) ∧ (posI p l1 < 0) ∧ (posI p l2 < 0) ∧ (kk = 0) ∧ (64 ≤ (l0.length : Int)) ∧ PureC pg an 61 [.agg (wC rn rc u0 v0 u1 v1 u2 v2 S hand l0 l1 l2), .one (vi kk), .agg [vi p.1, vi p.2.1]] [.agg (wC rn rc u0 v0 u1 v1 u2 v2 S hand l0 l1 l2), .one (vi 2)]) ∨ ((posI p l0 < 0) ∧ (posI p l1 < 0) ∧ (posI p l2 < 0) ∧ (kk = 0) ∧ ((l0.length : Int) < 64) ∧ ∃ nl : Bool, ∃ cp : Bool, PureC pg an 61 [.agg (wC rn rc u0 v0 u1 v1 u2 v2 S hand l0 l1 l2), .one (vi kk), .agg [vi p.1, vi p.2.1]] [.agg (wC rn rc nl cp u1 v1 u2 v2 S hand (l0 ++ [(p, (false, ()))]) l1 l2), .one (vi 0)]) ∨ ((posI p l0 < 0) ∧ (posI p l1 < 0) ∧ (posI p l2 < 0) ∧ (kk = 1) ∧ (64 ≤ (l1.length : Int)) ∧ PureC pg an 61 [.agg (wC rn rc u0 v0 u1 v1 u2 v2 S hand l0 l1 l2), .one (vi kk), .agg [vi p.1, vi p.2.1]] [.agg (wC rn rc u0 v0 u1 v1 u2 v2 S hand l0 l1 l2), .one (vi 2)]) ∨ ((posI p l0 < 0) ∧ (posI p l1 < 0) ∧ (posI p l2 < 0) ∧ (kk = 1) ∧ ((l1.length : Int) < 64) ∧ ∃ nl : Bool, ∃ cp : Bool, PureC pg an 61 [.agg (wC rn rc u0 v0 u1 v1 u2 v2 S hand l0 l1 l2), .one (vi kk), .agg [vi p.1, vi p.2.1]] [.agg (wC rn rc u0 v0 nl cp u2 v2 S hand l0 (l1 ++ [(p, (false, ()))]) l2), .one (vi 0)]) ∨ ((posI p l0 < 0) ∧ (posI p l1 < 0) ∧ (posI p l2 < 0) ∧ (kk = 2) ∧ (64 ≤ (l2.length : Int)) ∧ PureC pg an 61 [.agg (wC rn rc u0 v0 u1 v1 u2 v2 S hand l0 l1 l2), .one (vi kk), .agg [vi p.1, vi p.2.1]] [.agg (wC rn rc u0 v0 u1 v1 u2 v2 S hand l0 l1 l2), .one (vi 2)]) ∨ ((posI p l0 < 0) ∧ (posI p l1 < 0) ∧ (posI p l2 < 0) ∧ (kk = 2) ∧ ((l2.length : Int) < 64) ∧ ∃ nl : Bool, ∃ cp : Bool, PureC pg an 61 [.agg (wC rn rc u0 v0 u1 v1 u2 v2 S hand l0 l1 l2), .one (vi kk), .agg [vi p.1, vi p.2.1]] [.agg (wC rn rc u0 v0 u1 v1 nl cp S hand l0 l1 (l2 ++ [(p, (false, ()))])), .one (vi 0)]) := by
 suffices h : ∃ rs H', Runs pg an 61 [.agg (wC rn rc u0 v0 u1 v1 u2 v2 S hand l0 l1 l2), .one (vi kk), .agg [vi p.1, vi p.2.1]] [] rs H' ∧ (((0 ≤ posI p l0 ∨ 0 ≤ posI p l1 ∨ 0 ≤ posI p l2) ∧ rs.mapM (backY H') = some [.agg (wC rn rc u0 v0 u1 v1 u2 v2 S hand l0 l1 l2), .one (vi 1)]) ∨ ((posI p l0 < 0) ∧ (posI p l1 < 0) ∧ (posI p l2 < 0) ∧ (kk = 0) ∧ (64 ≤ (l0.length : Int)) ∧ rs.mapM (backY H') = some [.agg (wC rn rc u0 v0 u1 v1 u2 v2 S hand l0 l1 l2), .one (vi 2)]) ∨ ((posI p l0 < 0) ∧ (posI p l1 < 0) ∧ (posI p l2 < 0) ∧ (kk = 0) ∧ ((l0.length : Int) < 64) ∧ ∃ nl : Bool, ∃ cp : Bool, rs.mapM (backY H') = some [.agg (wC rn rc nl cp u1 v1 u2 v2 S hand (l0 ++ [(p, (false, ()))]) l1 l2), .one (vi 0)]) ∨ ((posI p l0 < 0) ∧ (posI p l1 < 0) ∧ (posI p l2 < 0) ∧ (kk = 1) ∧ (64 ≤ (l1.length : Int)) ∧ rs.mapM (backY H') = some [.agg (wC rn rc u0 v0 u1 v1 u2 v2 S hand l0 l1 l2), .one (vi 2)]) ∨ ((posI p l0 < 0) ∧ (posI p l1 < 0) ∧ (posI p l2 < 0) ∧ (kk = 1) ∧ ((l1.length : Int) < 64) ∧ ∃ nl : Bool, ∃ cp : Bool, rs.mapM (backY H') = some [.agg (wC rn rc u0 v0 nl cp u2 v2 S hand l0 (l1 ++ [(p, (false, ()))]) l2), .one (vi 0)]) ∨ ((posI p l0 < 0) ∧ (posI p l1 < 0) ∧ (posI p l2 < 0) ∧ (kk = 2) ∧ (64 ≤ (l2.length : Int)) ∧ rs.mapM (backY H') = some [.agg (wC rn rc u0 v0 u1 v1 u2 v2 S hand l0 l1 l2), .one (vi 2)]) ∨ ((posI p l0 < 0) ∧ (posI p l1 < 0) ∧ (posI p l2 < 0) ∧ (kk = 2) ∧ ((l2.length : Int) < 64) ∧ ∃ nl : Bool, ∃ cp : Bool, rs.mapM (backY H') = some [.agg (wC rn rc u0 v0 u1 v1 nl cp S hand l0 l1 (l2 ++ [(p, (false, ()))])), .one (vi 0)])) by
  obtain ⟨rs, H', h1, h2⟩ := h
  rcases h2 with ⟨pr0, h2⟩ | ⟨pr0, pr1, pr2, pr3, pr4, h2⟩ | ⟨pr0, pr1, pr2, pr3, pr4, ex0, ex1, h2⟩ | ⟨pr0, pr1, pr2, pr3, pr4, h2⟩ | ⟨pr0, pr1, pr2, pr3, pr4, ex0, ex1, h2⟩ | ⟨pr0, pr1, pr2, pr3, pr4, h2⟩ | ⟨pr0, pr1, pr2, pr3, pr4, ex0, ex1, h2⟩
  · exact .inl (⟨pr0, rs, H', h1, h2⟩)
  · exact .inr (.inl (⟨pr0, pr1, pr2, pr3, pr4, rs, H', h1, h2⟩))
  · exact .inr (.inr (.inl (⟨pr0, pr1, pr2, pr3, pr4, ex0, ex1, rs, H', h1, h2⟩)))
  · exact .inr (.inr (.inr (.inl (⟨pr0, pr1, pr2, pr3, pr4, rs, H', h1, h2⟩))))
  · exact .inr (.inr (.inr (.inr (.inl (⟨pr0, pr1, pr2, pr3, pr4, ex0, ex1, rs, H', h1, h2⟩)))))
  · exact .inr (.inr (.inr (.inr (.inr (.inl (⟨pr0, pr1, pr2, pr3, pr4, rs, H', h1, h2⟩))))))
  · exact .inr (.inr (.inr (.inr (.inr (.inr (⟨pr0, pr1, pr2, pr3, pr4, ex0, ex1, rs, H', h1, h2⟩))))))
 refine rOF Try.func61 rfl ?_
 obtain ⟨n1, hn1⟩ := lX []
 obtain ⟨n2, hn2⟩ := lX ([] ++ [.obj (wC rn rc u0 v0 u1 v1 u2 v2 S hand l0 l1 l2)])
 obtain ⟨n3, hn3⟩ := lX (([] ++ [.obj (wC rn rc u0 v0 u1 v1 u2 v2 S hand l0 l1 l2)]) ++ [.obj [vi p.1, vi p.2.1]])
 refine rGz [(1, xi kk), (3, yp n1), (5, yp n2), (6, yp n3)] (On.new' hn3 (.obj [nilC, vi 0, nilC, nilC, nilC]) (On.new' hn2 (.obj [vi p.1, vi p.2.1]) (On.new' hn1 (.obj (wC rn rc u0 v0 u1 v1 u2 v2 S hand l0 l1 l2)) (On.nil [])))) (zA 0 (qB 31 (wC rn rc u0 v0 u1 v1 u2 v2 S hand l0 l1 l2) hn1) (zA 1 (qB 38 [vi p.1, vi p.2.1] hn2) (zL 2 (qO 31 [nilC, vi 0, nilC, nilC, nilC] hn3)))) fun H4 hs5 => ?_
 refine wS ?_
 have hz6 := posI_bd p l0
 have hz8 := posI_bd p l1
 have hz11 := posI_bd p l2
 by_cases c15 : (0 : Int) ≤ (posI p l0)
 ·
  refine rSz [(1, xi kk), (3, yp n1), (5, yp n2), (6, yp n3), (16, xb true)] H4 (zA 1 (qP1 H4 (rclass_in kk (by omega) (by omega))) (zA 4 (qA 31 (On.at hs5 0 rfl)) (zA 5 (qL 38 0 (.agg [vi p.1, vi p.2.1]) (On.at hs5 1 rfl)) (zL 6 (qP2 H4 (rstands_0 false rn rc false u0 v0 false u1 v1 false u2 v2 S hand l0 l1 l2 p (by first | rfl | omega | (simp only [ek_]; omega) | (simp; done) | (simp; omega)) (by first | rfl | omega | (simp only [ek_]; omega) | (simp; done) | (simp; omega)) (by first | rfl | omega | (simp only [ek_]; omega) | (simp; done) | (simp; omega)) (by omega))))))) ?_
  refine wTa ?_
  refine rGz [(6, yp n3), (7, xi 1)] (On.put (.obj (wC rn rc u0 v0 u1 v1 u2 v2 S hand l0 l1 l2)) hs5 2 rfl) (zA 0 (qA 31 (On.at hs5 0 rfl)) (zL 1 (qS 31 0 (.agg (wC rn rc u0 v0 u1 v1 u2 v2 S hand l0 l1 l2)) (On.at hs5 2 rfl)))) fun H19 hs20 => ?_
  refine wE ?_
  refine ⟨Or.inr rfl, [.agg (wC rn rc u0 v0 u1 v1 u2 v2 S hand l0 l1 l2), .one (vi 1)], (rC (On.at hs20 2 rfl)), ?_⟩
  exact .inl (⟨by omega, (by kernel_rfl)⟩)
 by_cases c24 : (0 : Int) ≤ (posI p l1)
 ·
  refine rSz [(1, xi kk), (3, yp n1), (5, yp n2), (6, yp n3), (16, xb true)] H4 (zA 1 (qP1 H4 (rclass_in kk (by omega) (by omega))) (zA 4 (qA 31 (On.at hs5 0 rfl)) (zA 5 (qL 38 0 (.agg [vi p.1, vi p.2.1]) (On.at hs5 1 rfl)) (zL 6 (qP2 H4 (rstands_1 false rn rc false u0 v0 false u1 v1 false u2 v2 S hand l0 l1 l2 p (by first | rfl | omega | (simp only [ek_]; omega) | (simp; done) | (simp; omega)) (by first | rfl | omega | (simp only [ek_]; omega) | (simp; done) | (simp; omega)) (by first | rfl | omega | (simp only [ek_]; omega) | (simp; done) | (simp; omega)) (by omega) (by omega))))))) ?_
  refine wTa ?_
  refine rGz [(6, yp n3), (7, xi 1)] (On.put (.obj (wC rn rc u0 v0 u1 v1 u2 v2 S hand l0 l1 l2)) hs5 2 rfl) (zA 0 (qA 31 (On.at hs5 0 rfl)) (zL 1 (qS 31 0 (.agg (wC rn rc u0 v0 u1 v1 u2 v2 S hand l0 l1 l2)) (On.at hs5 2 rfl)))) fun H28 hs29 => ?_
  refine wE ?_
  refine ⟨Or.inr rfl, [.agg (wC rn rc u0 v0 u1 v1 u2 v2 S hand l0 l1 l2), .one (vi 1)], (rC (On.at hs29 2 rfl)), ?_⟩
  exact .inl (⟨by omega, (by kernel_rfl)⟩)
 by_cases c33 : (0 : Int) ≤ (posI p l2)
 ·
  refine rSz [(1, xi kk), (3, yp n1), (5, yp n2), (6, yp n3), (16, xb true)] H4 (zA 1 (qP1 H4 (rclass_in kk (by omega) (by omega))) (zA 4 (qA 31 (On.at hs5 0 rfl)) (zA 5 (qL 38 0 (.agg [vi p.1, vi p.2.1]) (On.at hs5 1 rfl)) (zL 6 (qP2 H4 (rstands_2 false rn rc false u0 v0 false u1 v1 false u2 v2 S hand l0 l1 l2 p (by first | rfl | omega | (simp only [ek_]; omega) | (simp; done) | (simp; omega)) (by first | rfl | omega | (simp only [ek_]; omega) | (simp; done) | (simp; omega)) (by first | rfl | omega | (simp only [ek_]; omega) | (simp; done) | (simp; omega)) (by omega) (by omega) (by omega))))))) ?_
  refine wTa ?_
  refine rGz [(6, yp n3), (7, xi 1)] (On.put (.obj (wC rn rc u0 v0 u1 v1 u2 v2 S hand l0 l1 l2)) hs5 2 rfl) (zA 0 (qA 31 (On.at hs5 0 rfl)) (zL 1 (qS 31 0 (.agg (wC rn rc u0 v0 u1 v1 u2 v2 S hand l0 l1 l2)) (On.at hs5 2 rfl)))) fun H37 hs38 => ?_
  refine wE ?_
  refine ⟨Or.inr rfl, [.agg (wC rn rc u0 v0 u1 v1 u2 v2 S hand l0 l1 l2), .one (vi 1)], (rC (On.at hs38 2 rfl)), ?_⟩
  exact .inl (⟨by omega, (by kernel_rfl)⟩)
 refine rSz [(1, xi kk), (3, yp n1), (5, yp n2), (6, yp n3), (16, xb false)] H4 (zA 1 (qP1 H4 (rclass_in kk (by omega) (by omega))) (zA 4 (qA 31 (On.at hs5 0 rfl)) (zA 5 (qL 38 0 (.agg [vi p.1, vi p.2.1]) (On.at hs5 1 rfl)) (zL 6 (qP2 H4 (rstands_3 false rn rc false u0 v0 false u1 v1 false u2 v2 S hand l0 l1 l2 p (by first | rfl | omega | (simp only [ek_]; omega) | (simp; done) | (simp; omega)) (by first | rfl | omega | (simp only [ek_]; omega) | (simp; done) | (simp; omega)) (by first | rfl | omega | (simp only [ek_]; omega) | (simp; done) | (simp; omega)) (by omega) (by omega) (by omega))))))) ?_
 refine wFk ?_
 refine wS ?_
 rcases (show kk = 0 ∨ kk = 1 ∨ kk = 2 from by omega) with rfl | rfl | rfl
 ·
  by_cases c42 : (64 : Int) ≤ (l0.length : Int)
  ·
   refine rSz [(1, xi 0), (3, yp n1), (5, yp n2), (6, yp n3), (23, xb true)] H4 (zA 3 (qL 23 2 (.one (sv EN false u0 v0 l0)) (On.at hs5 0 rfl)) (zL 5 (qgeqT H4 (l0.length : Int) 64))) ?_
   refine wTa ?_
   refine rGz [(6, yp n3), (7, xi 2)] (On.put (.obj (wC rn rc u0 v0 u1 v1 u2 v2 S hand l0 l1 l2)) hs5 2 rfl) (zA 0 (qA 31 (On.at hs5 0 rfl)) (zL 1 (qS 31 0 (.agg (wC rn rc u0 v0 u1 v1 u2 v2 S hand l0 l1 l2)) (On.at hs5 2 rfl)))) fun H43 hs44 => ?_
   refine wE ?_
   refine ⟨Or.inr rfl, [.agg (wC rn rc u0 v0 u1 v1 u2 v2 S hand l0 l1 l2), .one (vi 2)], (rC (On.at hs44 2 rfl)), ?_⟩
   exact .inr (.inl (⟨by omega, by omega, by omega, rfl, by omega, (by kernel_rfl)⟩))
  refine rSz [(1, xi 0), (3, yp n1), (5, yp n2), (6, yp n3), (23, xb false)] H4 (zA 3 (qL 23 2 (.one (sv EN false u0 v0 l0)) (On.at hs5 0 rfl)) (zL 5 (qgeqF H4 (l0.length : Int) 64))) ?_
  refine wFk ?_
  refine rs0 [(1, xi 0), (3, yp n1), (5, yp n2), (6, yp n3), (8, .y (.one (nilC)))] ?_
  obtain ⟨cv45, H46, ho47, hs48⟩ := or_append_nil (P := pg) (A := an) (s := EN) (t := 23) (u := 23) (el := 40) (by_ := 24) (z := [vi 0, vi 0, vb false]) (ty := 0) (y := sv EN false u0 v0 l0) (lm := l0) (m := l0.length) hs5 ((slCells_slO (H := H4) (s := EN) (b := false) (nil := u0) (capd := v0) (l := l0) (n := l0.length) (by first | rfl | omega | (simp only [ek_]; omega) | (simp; done) | (simp; omega)))) (by kernel_rfl) (by kernel_rfl) (by kernel_rfl) (by kernel_rfl) (by kernel_rfl) (by kernel_rfl) (by kernel_rfl) (by first | rfl | omega | (simp only [ek_]; omega) | (simp; done) | (simp; omega)) (by omega) (by omega)
  have hs48l : (l0.length : Int) = (l0.length : Int) := by { first | omega | (simp only [ej_]; omega) | (simp; done) | (simp; omega) }
  refine rGz [(1, xi 0), (3, yp n1), (5, yp n2), (6, yp n3), (8, .y (.one (cv45)))] hs48 (zA 4 (qL 23 2 (.one (sv EN false u0 v0 l0)) (On.at hs5 0 rfl)) (zL 5 ho47)) fun H49 hs50 => ?_
  obtain ⟨cv51, H52, ho53, hs54⟩ := or_append_items (P := pg) (A := an) (s := EN) (t := 23) (u := 23) (el := 40) (by_ := 24) (z := [vi 0, vi 0, vb false]) (ty := 0) (y := .sl false false true [vi p.1, vi p.2.1, vb false] 1) (lm := ([(p, (false, ()))])) (m := 1) hs50 3 rfl ((slCells_slO (H := H49) (s := EN) (b := false) (nil := false) (capd := true) (l := [(p, (false, ()))]) (n := 1) (by first | rfl | omega | (simp only [ek_]; omega) | (simp; done) | (simp; omega)))) (by kernel_rfl) (by kernel_rfl) (by kernel_rfl) (by kernel_rfl) (by kernel_rfl) (by kernel_rfl) (by kernel_rfl) (by first | rfl | omega | (simp only [ek_]; omega) | (simp; done) | (simp; omega)) (by omega) (by omega)
  have hs54l : ((l0 ++ ([(p, (false, ()))])).length : Int) = ((l0.length : Int) + 1) := by { first | omega | (simp only [ej_]; omega) | (simp; done) | (simp; omega) }
  have hv55 : C.live cv51 = true := items_live hs54 3 rfl
  refine rGz [(3, yp n1), (6, yp n3)] (On.put (.obj [sv NI false rn rc S, vi hand, cv51, sv EN false u1 v1 l1, sv EN false u2 v2 l2]) hs54 0 rfl) (zA 2 (qL 38 0 (.agg [vi p.1, vi p.2.1]) (On.at hs50 1 rfl)) (zA 5 ho53 (zL 8 (Jd (H := H52) (t := 23) (ty := 0) (id := n1) (off := 2) (cs := (wC rn rc u0 v0 u1 v1 u2 v2 S hand l0 l1 l2)) (cs' := [sv NI false rn rc S, vi hand, cv51, sv EN false u1 v1 l1, sv EN false u2 v2 l2]) (v := .one (cv51)) (On.at hs54 0 rfl) (by kernel_rfl) (live_cons hv55 live_nil) (by kernel_rfl) (by kernel_rfl))))) fun H56 hs57 => ?_
  refine rGz [(6, yp n3), (7, xi 0)] (On.put (.obj [sv NI false rn rc S, vi hand, cv51, sv EN false u1 v1 l1, sv EN false u2 v2 l2]) hs57 2 rfl) (zA 0 (qA 31 (On.at hs57 0 rfl)) (zL 1 (Jd (H := H56) (t := 31) (ty := 0) (id := n3) (off := 0) (cs := [nilC, vi 0, nilC, nilC, nilC]) (cs' := [sv NI false rn rc S, vi hand, cv51, sv EN false u1 v1 l1, sv EN false u2 v2 l2]) (v := .agg [sv NI false rn rc S, vi hand, cv51, sv EN false u1 v1 l1, sv EN false u2 v2 l2]) (On.at hs57 2 rfl) (by kernel_rfl) (live_cons rfl (live_cons rfl (live_cons hv55 (live_cons rfl (live_cons rfl live_nil))))) (by kernel_rfl) (by kernel_rfl)))) fun H58 hs59 => ?_
  refine wE ?_
  refine ⟨Or.inr rfl, [.agg [sv NI false rn rc S, vi hand, cv51, sv EN false u1 v1 l1, sv EN false u2 v2 l2], .one (vi 0)], (rC (On.at hs59 2 rfl)), ?_⟩
  obtain ⟨fn60, fp61, hf62⟩ := items_back hs59 3 rfl
  exact .inr (.inr (.inl (⟨by omega, by omega, by omega, rfl, by omega, fn60, fp61, (by have e9 : (l0 ++ ([(p, (false, ()))])) = (l0 ++ [(p, (false, ()))]) := (by first | rfl | (rw [show l0 = [] from List.eq_nil_of_length_eq_zero (by omega)]; rfl)); rw [← e9]; exact (back_cons (back_agg (mapM_cons' (by kernel_rfl) (mapM_cons' (by kernel_rfl) (mapM_cons' hf62 (mapM_cons' (by kernel_rfl) (mapM_cons' (by kernel_rfl) mapM_nil')))))) (back_cons (by kernel_rfl) rfl)))⟩)))
 ·
  by_cases c63 : (64 : Int) ≤ (l1.length : Int)
  ·
   refine rSz [(1, xi 1), (3, yp n1), (5, yp n2), (6, yp n3), (23, xb true)] H4 (zA 3 (qL 23 3 (.one (sv EN false u1 v1 l1)) (On.at hs5 0 rfl)) (zL 5 (qgeqT H4 (l1.length : Int) 64))) ?_
   refine wTa ?_
   refine rGz [(6, yp n3), (7, xi 2)] (On.put (.obj (wC rn rc u0 v0 u1 v1 u2 v2 S hand l0 l1 l2)) hs5 2 rfl) (zA 0 (qA 31 (On.at hs5 0 rfl)) (zL 1 (qS 31 0 (.agg (wC rn rc u0 v0 u1 v1 u2 v2 S hand l0 l1 l2)) (On.at hs5 2 rfl)))) fun H64 hs65 => ?_
   refine wE ?_
   refine ⟨Or.inr rfl, [.agg (wC rn rc u0 v0 u1 v1 u2 v2 S hand l0 l1 l2), .one (vi 2)], (rC (On.at hs65 2 rfl)), ?_⟩
   exact .inr (.inr (.inr (.inl (⟨by omega, by omega, by omega, rfl, by omega, (by kernel_rfl)⟩))))
  refine rSz [(1, xi 1), (3, yp n1), (5, yp n2), (6, yp n3), (23, xb false)] H4 (zA 3 (qL 23 3 (.one (sv EN false u1 v1 l1)) (On.at hs5 0 rfl)) (zL 5 (qgeqF H4 (l1.length : Int) 64))) ?_
  refine wFk ?_
  refine rs0 [(1, xi 1), (3, yp n1), (5, yp n2), (6, yp n3), (8, .y (.one (nilC)))] ?_
  obtain ⟨cv66, H67, ho68, hs69⟩ := or_append_nil (P := pg) (A := an) (s := EN) (t := 23) (u := 23) (el := 40) (by_ := 24) (z := [vi 0, vi 0, vb false]) (ty := 0) (y := sv EN false u1 v1 l1) (lm := l1) (m := l1.length) hs5 ((slCells_slO (H := H4) (s := EN) (b := false) (nil := u1) (capd := v1) (l := l1) (n := l1.length) (by first | rfl | omega | (simp only [ek_]; omega) | (simp; done) | (simp; omega)))) (by kernel_rfl) (by kernel_rfl) (by kernel_rfl) (by kernel_rfl) (by kernel_rfl) (by kernel_rfl) (by kernel_rfl) (by first | rfl | omega | (simp only [ek_]; omega) | (simp; done) | (simp; omega)) (by omega) (by omega)
  have hs69l : (l1.length : Int) = (l1.length : Int) := by { first | omega | (simp only [ej_]; omega) | (simp; done) | (simp; omega) }
  refine rGz [(1, xi 1), (3, yp n1), (5, yp n2), (6, yp n3), (8, .y (.one (cv66)))] hs69 (zA 4 (qL 23 3 (.one (sv EN false u1 v1 l1)) (On.at hs5 0 rfl)) (zL 5 ho68)) fun H70 hs71 => ?_
  obtain ⟨cv72, H73, ho74, hs75⟩ := or_append_items (P := pg) (A := an) (s := EN) (t := 23) (u := 23) (el := 40) (by_ := 24) (z := [vi 0, vi 0, vb false]) (ty := 0) (y := .sl false false true [vi p.1, vi p.2.1, vb false] 1) (lm := ([(p, (false, ()))])) (m := 1) hs71 3 rfl ((slCells_slO (H := H70) (s := EN) (b := false) (nil := false) (capd := true) (l := [(p, (false, ()))]) (n := 1) (by first | rfl | omega | (simp only [ek_]; omega) | (simp; done) | (simp; omega)))) (by kernel_rfl) (by kernel_rfl) (by kernel_rfl) (by kernel_rfl) (by kernel_rfl) (by kernel_rfl) (by kernel_rfl) (by first | rfl | omega | (simp only [ek_]; omega) | (simp; done) | (simp; omega)) (by omega) (by omega)
  have hs75l : ((l1 ++ ([(p, (false, ()))])).length : Int) = ((l1.length : Int) + 1) := by { first | omega | (simp only [ej_]; omega) | (simp; done) | (simp; omega) }
  have hv76 : C.live cv72 = true := items_live hs75 3 rfl
  refine rGz [(3, yp n1), (6, yp n3)] (On.put (.obj [sv NI false rn rc S, vi hand, sv EN false u0 v0 l0, cv72, sv EN false u2 v2 l2]) hs75 0 rfl) (zA 2 (qL 38 0 (.agg [vi p.1, vi p.2.1]) (On.at hs71 1 rfl)) (zA 5 ho74 (zL 8 (Jd (H := H73) (t := 23) (ty := 0) (id := n1) (off := 3) (cs := (wC rn rc u0 v0 u1 v1 u2 v2 S hand l0 l1 l2)) (cs' := [sv NI false rn rc S, vi hand, sv EN false u0 v0 l0, cv72, sv EN false u2 v2 l2]) (v := .one (cv72)) (On.at hs75 0 rfl) (by kernel_rfl) (live_cons hv76 live_nil) (by kernel_rfl) (by kernel_rfl))))) fun H77 hs78 => ?_
  refine rGz [(6, yp n3), (7, xi 0)] (On.put (.obj [sv NI false rn rc S, vi hand, sv EN false u0 v0 l0, cv72, sv EN false u2 v2 l2]) hs78 2 rfl) (zA 0 (qA 31 (On.at hs78 0 rfl)) (zL 1 (Jd (H := H77) (t := 31) (ty := 0) (id := n3) (off := 0) (cs := [nilC, vi 0, nilC, nilC, nilC]) (cs' := [sv NI false rn rc S, vi hand, sv EN false u0 v0 l0, cv72, sv EN false u2 v2 l2]) (v := .agg [sv NI false rn rc S, vi hand, sv EN false u0 v0 l0, cv72, sv EN false u2 v2 l2]) (On.at hs78 2 rfl) (by kernel_rfl) (live_cons rfl (live_cons rfl (live_cons rfl (live_cons hv76 (live_cons rfl live_nil))))) (by kernel_rfl) (by kernel_rfl)))) fun H79 hs80 => ?_
  refine wE ?_
  refine ⟨Or.inr rfl, [.agg [sv NI false rn rc S, vi hand, sv EN false u0 v0 l0, cv72, sv EN false u2 v2 l2], .one (vi 0)], (rC (On.at hs80 2 rfl)), ?_⟩
  obtain ⟨fn81, fp82, hf83⟩ := items_back hs80 3 rfl
  exact .inr (.inr (.inr (.inr (.inl (⟨by omega, by omega, by omega, rfl, by omega, fn81, fp82, (by have e9 : (l1 ++ ([(p, (false, ()))])) = (l1 ++ [(p, (false, ()))]) := (by first | rfl | (rw [show l1 = [] from List.eq_nil_of_length_eq_zero (by omega)]; rfl)); rw [← e9]; exact (back_cons (back_agg (mapM_cons' (by kernel_rfl) (mapM_cons' (by kernel_rfl) (mapM_cons' (by kernel_rfl) (mapM_cons' hf83 (mapM_cons' (by kernel_rfl) mapM_nil')))))) (back_cons (by kernel_rfl) rfl)))⟩)))))
 by_cases c84 : (64 : Int) ≤ (l2.length : Int)
 ·
  refine rSz [(1, xi 2), (3, yp n1), (5, yp n2), (6, yp n3), (23, xb true)] H4 (zA 3 (qL 23 4 (.one (sv EN false u2 v2 l2)) (On.at hs5 0 rfl)) (zL 5 (qgeqT H4 (l2.length : Int) 64))) ?_
  refine wTa ?_
  refine rGz [(6, yp n3), (7, xi 2)] (On.put (.obj (wC rn rc u0 v0 u1 v1 u2 v2 S hand l0 l1 l2)) hs5 2 rfl) (zA 0 (qA 31 (On.at hs5 0 rfl)) (zL 1 (qS 31 0 (.agg (wC rn rc u0 v0 u1 v1 u2 v2 S hand l0 l1 l2)) (On.at hs5 2 rfl)))) fun H85 hs86 => ?_
  refine wE ?_
  refine ⟨Or.inr rfl, [.agg (wC rn rc u0 v0 u1 v1 u2 v2 S hand l0 l1 l2), .one (vi 2)], (rC (On.at hs86 2 rfl)), ?_⟩
  exact .inr (.inr (.inr (.inr (.inr (.inl (⟨by omega, by omega, by omega, rfl, by omega, (by kernel_rfl)⟩))))))
 refine rSz [(1, xi 2), (3, yp n1), (5, yp n2), (6, yp n3), (23, xb false)] H4 (zA 3 (qL 23 4 (.one (sv EN false u2 v2 l2)) (On.at hs5 0 rfl)) (zL 5 (qgeqF H4 (l2.length : Int) 64))) ?_
 refine wFk ?_
 refine rs0 [(1, xi 2), (3, yp n1), (5, yp n2), (6, yp n3), (8, .y (.one (nilC)))] ?_
 obtain ⟨cv87, H88, ho89, hs90⟩ := or_append_nil (P := pg) (A := an) (s := EN) (t := 23) (u := 23) (el := 40) (by_ := 24) (z := [vi 0, vi 0, vb false]) (ty := 0) (y := sv EN false u2 v2 l2) (lm := l2) (m := l2.length) hs5 ((slCells_slO (H := H4) (s := EN) (b := false) (nil := u2) (capd := v2) (l := l2) (n := l2.length) (by first | rfl | omega | (simp only [ek_]; omega) | (simp; done) | (simp; omega)))) (by kernel_rfl) (by kernel_rfl) (by kernel_rfl) (by kernel_rfl) (by kernel_rfl) (by kernel_rfl) (by kernel_rfl) (by first | rfl | omega | (simp only [ek_]; omega) | (simp; done) | (simp; omega)) (by omega) (by omega)
 have hs90l : (l2.length : Int) = (l2.length : Int) := by { first | omega | (simp only [ej_]; omega) | (simp; done) | (simp; omega) }
 refine rGz [(1, xi 2), (3, yp n1), (5, yp n2), (6, yp n3), (8, .y (.one (cv87)))] hs90 (zA 4 (qL 23 4 (.one (sv EN false u2 v2 l2)) (On.at hs5 0 rfl)) (zL 5 ho89)) fun H91 hs92 => ?_
 obtain ⟨cv93, H94, ho95, hs96⟩ := or_append_items (P := pg) (A := an) (s := EN) (t := 23) (u := 23) (el := 40) (by_ := 24) (z := [vi 0, vi 0, vb false]) (ty := 0) (y := .sl false false true [vi p.1, vi p.2.1, vb false] 1) (lm := ([(p, (false, ()))])) (m := 1) hs92 3 rfl ((slCells_slO (H := H91) (s := EN) (b := false) (nil := false) (capd := true) (l := [(p, (false, ()))]) (n := 1) (by first | rfl | omega | (simp only [ek_]; omega) | (simp; done) | (simp; omega)))) (by kernel_rfl) (by kernel_rfl) (by kernel_rfl) (by kernel_rfl) (by kernel_rfl) (by kernel_rfl) (by kernel_rfl) (by first | rfl | omega | (simp only [ek_]; omega) | (simp; done) | (simp; omega)) (by omega) (by omega)
 have hs96l : ((l2 ++ ([(p, (false, ()))])).length : Int) = ((l2.length : Int) + 1) := by { first | omega | (simp only [ej_]; omega) | (simp; done) | (simp; omega) }
 have hv97 : C.live cv93 = true := items_live hs96 3 rfl
 refine rGz [(3, yp n1), (6, yp n3)] (On.put (.obj [sv NI false rn rc S, vi hand, sv EN false u0 v0 l0, sv EN false u1 v1 l1, cv93]) hs96 0 rfl) (zA 2 (qL 38 0 (.agg [vi p.1, vi p.2.1]) (On.at hs92 1 rfl)) (zA 5 ho95 (zL 8 (Jd (H := H94) (t := 23) (ty := 0) (id := n1) (off := 4) (cs := (wC rn rc u0 v0 u1 v1 u2 v2 S hand l0 l1 l2)) (cs' := [sv NI false rn rc S, vi hand, sv EN false u0 v0 l0, sv EN false u1 v1 l1, cv93]) (v := .one (cv93)) (On.at hs96 0 rfl) (by kernel_rfl) (live_cons hv97 live_nil) (by kernel_rfl) (by kernel_rfl))))) fun H98 hs99 => ?_
 refine rGz [(6, yp n3), (7, xi 0)] (On.put (.obj [sv NI false rn rc S, vi hand, sv EN false u0 v0 l0, sv EN false u1 v1 l1, cv93]) hs99 2 rfl) (zA 0 (qA 31 (On.at hs99 0 rfl)) (zL 1 (Jd (H := H98) (t := 31) (ty := 0) (id := n3) (off := 0) (cs := [nilC, vi 0, nilC, nilC, nilC]) (cs' := [sv NI false rn rc S, vi hand, sv EN false u0 v0 l0, sv EN false u1 v1 l1, cv93]) (v := .agg [sv NI false rn rc S, vi hand, sv EN false u0 v0 l0, sv EN false u1 v1 l1, cv93]) (On.at hs99 2 rfl) (by kernel_rfl) (live_cons rfl (live_cons rfl (live_cons rfl (live_cons rfl (live_cons hv97 live_nil))))) (by kernel_rfl) (by kernel_rfl)))) fun H100 hs101 => ?_
 refine wE ?_
 refine ⟨Or.inr rfl, [.agg [sv NI false rn rc S, vi hand, sv EN false u0 v0 l0, sv EN false u1 v1 l1, cv93], .one (vi 0)], (rC (On.at hs101 2 rfl)), ?_⟩
 obtain ⟨fn102, fp103, hf104⟩ := items_back hs101 3 rfl
 exact .inr (.inr (.inr (.inr (.inr (.inr (⟨by omega, by omega, by omega, rfl, by omega, fn102, fp103, (by have e9 : (l2 ++ ([(p, (false, ()))])) = (l2 ++ [(p, (false, ()))]) := (by first | rfl | (rw [show l2 = [] from List.eq_nil_of_length_eq_zero (by omega)]; rfl)); rw [← e9]; exact (back_cons (back_agg (mapM_cons' (by kernel_rfl) (mapM_cons' (by kernel_rfl) (mapM_cons' (by kernel_rfl) (mapM_cons' (by kernel_rfl) (mapM_cons' hf104 mapM_nil')))))) (back_cons (by kernel_rfl) rfl)))⟩))))))
theorem rpush_ok0 (rn rc u0 v0 u1 v1 u2 v2 : Bool) (S : List Int) (hand : Int) (l0 l1 l2 : List EN.T) (p : PN.T) (b0 : (l0.length : Int) ≤ 64) (b1 : (l1.length : Int) ≤ 64) (b2 : (l2.length : Int) ≤ 64) (h0 : posI p l0 < 0) (h1 : posI p l1 < 0) (h2 : posI p l2 < 0) (hf : (l0.length : Int) < 64) : ∃ nl cp : Bool, PureC pg an 61 [.agg (wC rn rc u0 v0 u1 v1 u2 v2 S hand l0 l1 l2), .one (vi 0), .agg [vi p.1, vi p.2.1]] [.agg (wC rn rc nl cp u1 v1 u2 v2 S hand (l0 ++ [(p, (false, ()))]) l1 l2), .one (vi 0)] := by
  rcases rpush rn rc u0 v0 u1 v1 u2 v2 S hand l0 l1 l2 0 p b0 b1 b2 (by omega) (by omega) with ⟨_, e⟩ | ⟨_, _, _, _, _, e⟩ | ⟨_, _, _, _, _, e⟩ | ⟨_, _, _, _, _, e⟩ | ⟨_, _, _, _, _, e⟩ | ⟨_, _, _, _, _, e⟩ | ⟨_, _, _, _, _, e⟩ <;> first | (exfalso; omega) | exact e
theorem rpush_ok1 (rn rc u0 v0 u1 v1 u2 v2 : Bool) (S : List Int) (hand : Int) (l0 l1 l2 : List EN.T) (p : PN.T) (b0 : (l0.length : Int) ≤ 64) (b1 : (l1.length : Int) ≤ 64) (b2 : (l2.length : Int) ≤ 64) (h0 : posI p l0 < 0) (h1 : posI p l1 < 0) (h2 : posI p l2 < 0) (hf : (l1.length : Int) < 64) : ∃ nl cp : Bool, PureC pg an 61 [.agg (wC rn rc u0 v0 u1 v1 u2 v2 S hand l0 l1 l2), .one (vi 1), .agg [vi p.1, vi p.2.1]] [.agg (wC rn rc u0 v0 nl cp u2 v2 S hand l0 (l1 ++ [(p, (false, ()))]) l2), .one (vi 0)] := by
  rcases rpush rn rc u0 v0 u1 v1 u2 v2 S hand l0 l1 l2 1 p b0 b1 b2 (by omega) (by omega) with ⟨_, e⟩ | ⟨_, _, _, _, _, e⟩ | ⟨_, _, _, _, _, e⟩ | ⟨_, _, _, _, _, e⟩ | ⟨_, _, _, _, _, e⟩ | ⟨_, _, _, _, _, e⟩ | ⟨_, _, _, _, _, e⟩ <;> first | (exfalso; omega) | exact e
theorem rpush_ok2 (rn rc u0 v0 u1 v1 u2 v2 : Bool) (S : List Int) (hand : Int) (l0 l1 l2 : List EN.T) (p : PN.T) (b0 : (l0.length : Int) ≤ 64) (b1 : (l1.length : Int) ≤ 64) (b2 : (l2.length : Int) ≤ 64) (h0 : posI p l0 < 0) (h1 : posI p l1 < 0) (h2 : posI p l2 < 0) (hf : (l2.length : Int) < 64) : ∃ nl cp : Bool, PureC pg an 61 [.agg (wC rn rc u0 v0 u1 v1 u2 v2 S hand l0 l1 l2), .one (vi 2), .agg [vi p.1, vi p.2.1]] [.agg (wC rn rc u0 v0 u1 v1 nl cp S hand l0 l1 (l2 ++ [(p, (false, ()))])), .one (vi 0)] := by
  rcases rpush rn rc u0 v0 u1 v1 u2 v2 S hand l0 l1 l2 2 p b0 b1 b2 (by omega) (by omega) with ⟨_, e⟩ | ⟨_, _, _, _, _, e⟩ | ⟨_, _, _, _, _, e⟩ | ⟨_, _, _, _, _, e⟩ | ⟨_, _, _, _, _, e⟩ | ⟨_, _, _, _, _, e⟩ | ⟨_, _, _, _, _, e⟩ <;> first | (exfalso; omega) | exact e
theorem rdrop_0 (rn rc u0 v0 u1 v1 u2 v2 : Bool) (S : List Int) (hand : Int) (l0 l1 l2 : List EN.T) (p : PN.T) (b0 : (l0.length : Int) ≤ 64) (b1 : (l1.length : Int) ≤ 64) (b2 : (l2.length : Int) ≤ 64) (h0 : 0 ≤ posI p l0)  : ∃ nl : Bool, ∃ cp : Bool, PureC pg an 62 [.agg (wC rn rc u0 v0 u1 v1 u2 v2 S hand l0 l1 l2), .agg [vi p.1, vi p.2.1]] [.agg (wC rn rc nl cp u1 v1 u2 v2 S hand (l0.take (posI p l0 : Int).toNat ++ l0.drop ((posI p l0) + 1 : Int).toNat) l1 l2), .one (vi 0), .one (vi (posI p l0)), .one (vi 0)] := by
 refine pE2 (rOF Try.func62 rfl ?_)
 obtain ⟨n1, hn1⟩ := lX []
 obtain ⟨n2, hn2⟩ := lX ([] ++ [.obj (wC rn rc u0 v0 u1 v1 u2 v2 S hand l0 l1 l2)])
 obtain ⟨n3, hn3⟩ := lX (([] ++ [.obj (wC rn rc u0 v0 u1 v1 u2 v2 S hand l0 l1 l2)]) ++ [.obj [vi p.1, vi p.2.1]])
 refine rGz [(2, yp n1), (3, yp n2), (4, yp n3)] (On.new' hn3 (.obj [nilC, vi 0, nilC, nilC, nilC]) (On.new' hn2 (.obj [vi p.1, vi p.2.1]) (On.new' hn1 (.obj (wC rn rc u0 v0 u1 v1 u2 v2 S hand l0 l1 l2)) (On.nil [])))) (zA 0 (qB 31 (wC rn rc u0 v0 u1 v1 u2 v2 S hand l0 l1 l2) hn1) (zA 1 (qB 38 [vi p.1, vi p.2.1] hn2) (zL 2 (qO 31 [nilC, vi 0, nilC, nilC, nilC] hn3)))) fun H4 hs5 => ?_
 have hz6 := posI_bd p l0
 have hz8 := posI_bd p l1
 have hz11 := posI_bd p l2
 refine rSz [(2, yp n1), (4, yp n3), (8, xi 0), (9, xi (posI p l0)), (10, xi 0)] H4 (zA 0 (qA 31 (On.at hs5 0 rfl)) (zA 1 (qL 38 0 (.agg [vi p.1, vi p.2.1]) (On.at hs5 1 rfl)) (zL 2 (qP2 H4 (rfind_0 false rn rc false u0 v0 false u1 v1 false u2 v2 S hand l0 l1 l2 p (by first | rfl | omega | (simp only [ek_]; omega) | (simp; done) | (simp; omega)) (by first | rfl | omega | (simp only [ek_]; omega) | (simp; done) | (simp; omega)) (by first | rfl | omega | (simp only [ek_]; omega) | (simp; done) | (simp; omega)) (by omega)))))) ?_
 refine wS ?_
 refine rs0 [(2, yp n1), (4, yp n3), (8, xi 0), (9, xi (posI p l0)), (10, xi 0), (19, xb false)] ?_
 refine wFk ?_
 obtain ⟨nl15, cp16, hp17⟩ := rwithout false u0 v0 l0 (posI p l0) (by first | rfl | omega | (simp only [ek_]; omega) | (simp; done) | (simp; omega)) (by omega) (by first | rfl | omega | (simp only [ek_]; omega) | (simp; done) | (simp; omega))
 have hlfz18 : ((l0.take ((posI p l0) : Int).toNat ++ l0.drop ((posI p l0) + 1 : Int).toNat).length : Int) = ((l0.length : Int) - 1) := by { first | rfl | omega | (simp only [ek_]; omega) | (simp; done) | (simp; omega) }
 refine rGz [(2, yp n1), (4, yp n3), (8, xi 0), (9, xi (posI p l0))] (On.put (.obj (wC rn rc nl15 cp16 u1 v1 u2 v2 S hand (l0.take ((posI p l0) : Int).toNat ++ l0.drop ((posI p l0) + 1 : Int).toNat) l1 l2)) hs5 0 rfl) (zA 4 (qL 23 2 (.one (sv EN false u0 v0 l0)) (On.at hs5 0 rfl)) (zA 6 (qP2 H4 hp17) (zL 9 (qS 23 2 (.one (sv EN false nl15 cp16 (l0.take ((posI p l0) : Int).toNat ++ l0.drop ((posI p l0) + 1 : Int).toNat))) (On.at hs5 0 rfl))))) fun H20 hs21 => ?_
 refine rGz [(4, yp n3), (5, xi 0), (6, xi (posI p l0)), (7, xi 0)] (On.put (.obj (wC rn rc nl15 cp16 u1 v1 u2 v2 S hand (l0.take ((posI p l0) : Int).toNat ++ l0.drop ((posI p l0) + 1 : Int).toNat) l1 l2)) hs21 2 rfl) (zA 0 (qA 31 (On.at hs21 0 rfl)) (zL 3 (qS 31 0 (.agg (wC rn rc nl15 cp16 u1 v1 u2 v2 S hand (l0.take ((posI p l0) : Int).toNat ++ l0.drop ((posI p l0) + 1 : Int).toNat) l1 l2)) (On.at hs21 2 rfl)))) fun H22 hs23 => ?_
 refine wE ?_
 refine ⟨Or.inr rfl, [.agg (wC rn rc nl15 cp16 u1 v1 u2 v2 S hand (l0.take ((posI p l0) : Int).toNat ++ l0.drop ((posI p l0) + 1 : Int).toNat) l1 l2), .one (vi 0), .one (vi (posI p l0)), .one (vi 0)], (rC (On.at hs23 2 rfl)), ?_⟩
 have e9 : (l0.take ((posI p l0) : Int).toNat ++ l0.drop ((posI p l0) + 1 : Int).toNat) = (l0.take (posI p l0 : Int).toNat ++ l0.drop ((posI p l0) + 1 : Int).toNat) := by first | rfl | assumption | (simp; done) | (rw [eb_]; done) | (simp; omega) | (apply List.ext_getElem?; intro j; simp [eg_, ee_, ef_]; done) | first | rfl | (apply List.ext_getElem?; intro i; first | (simp only [ea_, eb_, ec_, ed_, ee_, ef_, eg_, eh_, ei_, ej_, ek_, el_, em_]; done) | ((try simp only [ea_, eb_, ec_, ed_, ee_, ef_, eg_, eh_, ei_, ej_, ek_, el_, em_]); (repeat' split) <;> first | rfl | (congr 1; omega) | (exfalso; omega) | (exact ep_ (by omega)) | (exact (ep_ (by omega)).symm)))
 rw [← e9]
 exact ⟨nl15, cp16, (by kernel_rfl)⟩
theorem rdrop_1 (rn rc u0 v0 u1 v1 u2 v2 : Bool) (S : List Int) (hand : Int) (l0 l1 l2 : List EN.T) (p : PN.T) (b0 : (l0.length : Int) ≤ 64) (b1 : (l1.length : Int) ≤ 64) (b2 : (l2.length : Int) ≤ 64) (h0 : posI p l0 < 0) (h1 : 0 ≤ posI p l1)  : ∃ nl : Bool, ∃ cp : Bool, PureC pg an 62 [.agg (wC rn rc u0 v0 u1 v1 u2 v2 S hand l0 l1 l2), .agg [vi p.1, vi p.2.1]] [.agg (wC rn rc u0 v0 nl cp u2 v2 S hand l0 (l1.take (posI p l1 : Int).toNat ++ l1.drop ((posI p l1) + 1 : Int).toNat) l2), .one (vi 1), .one (vi (posI p l1)), .one (vi 0)] := by
 refine pE2 (rOF Try.func62 rfl ?_)
 obtain ⟨n1, hn1⟩ := lX []
 obtain ⟨n2, hn2⟩ := lX ([] ++ [.obj (wC rn rc u0 v0 u1 v1 u2 v2 S hand l0 l1 l2)])
 obtain ⟨n3, hn3⟩ := lX (([] ++ [.obj (wC rn rc u0 v0 u1 v1 u2 v2 S hand l0 l1 l2)]) ++ [.obj [vi p.1, vi p.2.1]])
 refine rGz [(2, yp n1), (3, yp n2), (4, yp n3)] (On.new' hn3 (.obj [nilC, vi 0, nilC, nilC, nilC]) (On.new' hn2 (.obj [vi p.1, vi p.2.1]) (On.new' hn1 (.obj (wC rn rc u0 v0 u1 v1 u2 v2 S hand l0 l1 l2)) (On.nil [])))) (zA 0 (qB 31 (wC rn rc u0 v0 u1 v1 u2 v2 S hand l0 l1 l2) hn1) (zA 1 (qB 38 [vi p.1, vi p.2.1] hn2) (zL 2 (qO 31 [nilC, vi 0, nilC, nilC, nilC] hn3)))) fun H4 hs5 => ?_
 have hz6 := posI_bd p l0
 have hz8 := posI_bd p l1
 have hz11 := posI_bd p l2
 refine rSz [(2, yp n1), (4, yp n3), (8, xi 1), (9, xi (posI p l1)), (10, xi 0)] H4 (zA 0 (qA 31 (On.at hs5 0 rfl)) (zA 1 (qL 38 0 (.agg [vi p.1, vi p.2.1]) (On.at hs5 1 rfl)) (zL 2 (qP2 H4 (rfind_1 false rn rc false u0 v0 false u1 v1 false u2 v2 S hand l0 l1 l2 p (by first | rfl | omega | (simp only [ek_]; omega) | (simp; done) | (simp; omega)) (by first | rfl | omega | (simp only [ek_]; omega) | (simp; done) | (simp; omega)) (by first | rfl | omega | (simp only [ek_]; omega) | (simp; done) | (simp; omega)) (by omega) (by omega)))))) ?_
 refine wS ?_
 refine rs0 [(2, yp n1), (4, yp n3), (8, xi 1), (9, xi (posI p l1)), (10, xi 0), (19, xb false)] ?_
 refine wFk ?_
 obtain ⟨nl15, cp16, hp17⟩ := rwithout false u1 v1 l1 (posI p l1) (by first | rfl | omega | (simp only [ek_]; omega) | (simp; done) | (simp; omega)) (by omega) (by first | rfl | omega | (simp only [ek_]; omega) | (simp; done) | (simp; omega))
 have hlfz18 : ((l1.take ((posI p l1) : Int).toNat ++ l1.drop ((posI p l1) + 1 : Int).toNat).length : Int) = ((l1.length : Int) - 1) := by { first | rfl | omega | (simp only [ek_]; omega) | (simp; done) | (simp; omega) }
 refine rGz [(2, yp n1), (4, yp n3), (8, xi 1), (9, xi (posI p l1))] (On.put (.obj (wC rn rc u0 v0 nl15 cp16 u2 v2 S hand l0 (l1.take ((posI p l1) : Int).toNat ++ l1.drop ((posI p l1) + 1 : Int).toNat) l2)) hs5 0 rfl) (zA 4 (qL 23 3 (.one (sv EN false u1 v1 l1)) (On.at hs5 0 rfl)) (zA 6 (qP2 H4 hp17) (zL 9 (qS 23 3 (.one (sv EN false nl15 cp16 (l1.take ((posI p l1) : Int).toNat ++ l1.drop ((posI p l1) + 1 : Int).toNat))) (On.at hs5 0 rfl))))) fun H20 hs21 => ?_
 refine rGz [(4, yp n3), (5, xi 1), (6, xi (posI p l1)), (7, xi 0)] (On.put (.obj (wC rn rc u0 v0 nl15 cp16 u2 v2 S hand l0 (l1.take ((posI p l1) : Int).toNat ++ l1.drop ((posI p l1) + 1 : Int).toNat) l2)) hs21 2 rfl) (zA 0 (qA 31 (On.at hs21 0 rfl)) (zL 3 (qS 31 0 (.agg (wC rn rc u0 v0 nl15 cp16 u2 v2 S hand l0 (l1.take ((posI p l1) : Int).toNat ++ l1.drop ((posI p l1) + 1 : Int).toNat) l2)) (On.at hs21 2 rfl)))) fun H22 hs23 => ?_
 refine wE ?_
 refine ⟨Or.inr rfl, [.agg (wC rn rc u0 v0 nl15 cp16 u2 v2 S hand l0 (l1.take ((posI p l1) : Int).toNat ++ l1.drop ((posI p l1) + 1 : Int).toNat) l2), .one (vi 1), .one (vi (posI p l1)), .one (vi 0)], (rC (On.at hs23 2 rfl)), ?_⟩
 have e9 : (l1.take ((posI p l1) : Int).toNat ++ l1.drop ((posI p l1) + 1 : Int).toNat) = (l1.take (posI p l1 : Int).toNat ++ l1.drop ((posI p l1) + 1 : Int).toNat) := by first | rfl | assumption | (simp; done) | (rw [eb_]; done) | (simp; omega) | (apply List.ext_getElem?; intro j; simp [eg_, ee_, ef_]; done) | first | rfl | (apply List.ext_getElem?; intro i; first | (simp only [ea_, eb_, ec_, ed_, ee_, ef_, eg_, eh_, ei_, ej_, ek_, el_, em_]; done) | ((try simp only [ea_, eb_, ec_, ed_, ee_, ef_, eg_, eh_, ei_, ej_, ek_, el_, em_]); (repeat' split) <;> first | rfl | (congr 1; omega) | (exfalso; omega) | (exact ep_ (by omega)) | (exact (ep_ (by omega)).symm)))
 rw [← e9]
 exact ⟨nl15, cp16, (by kernel_rfl)⟩
theorem rdrop_2 (rn rc u0 v0 u1 v1 u2 v2 : Bool) (S : List Int) (hand : Int) (l0 l1 l2 : List EN.T) (p : PN.T) (b0 : (l0.length : Int) ≤ 64) (b1 : (l1.length : Int) ≤ 64) (b2 : (l2.length : Int) ≤ 64) (h0 : posI p l0 < 0) (h1 : posI p l1 < 0) (h2 : 0 ≤ posI p l2)  : ∃ nl : Bool, ∃ cp : Bool, PureC pg an 62 [.agg (wC rn rc u0 v0 u1 v1 u2 v2 S hand l0 l1 l2), .agg [vi p.1, vi p.2.1]] [.agg (wC rn rc u0 v0 u1 v1 nl cp S hand l0 l1 (l2.take (posI p l2 : Int).toNat ++ l2.drop ((posI p l2) + 1 : Int).toNat)), .one (vi 2), .one (vi (posI p l2)), .one (vi 0)] := by
 refine pE2 (rOF Try.func62 rfl ?_)
 obtain ⟨n1, hn1⟩ := lX []
 obtain ⟨n2, hn2⟩ := lX ([] ++ [.obj (wC rn rc u0 v0 u1 v1 u2 v2 S hand l0 l1 l2)])
 obtain ⟨n3, hn3⟩ := lX (([] ++ [.obj (wC rn rc u0 v0 u1 v1 u2 v2 S hand l0 l1 l2)]) ++ [.obj [vi p.1, vi p.2.1]])
 refine rGz [(2, yp n1), (3, yp n2), (4, yp n3)] (On.new' hn3 (.obj [nilC, vi 0, nilC, nilC, nilC]) (On.new' hn2 (.obj [vi p.1, vi p.2.1]) (On.new' hn1 (.obj (wC rn rc u0 v0 u1 v1 u2 v2 S hand l0 l1 l2)) (On.nil [])))) (zA 0 (qB 31 (wC rn rc u0 v0 u1 v1 u2 v2 S hand l0 l1 l2) hn1) (zA 1 (qB 38 [vi p.1, vi p.2.1] hn2) (zL 2 (qO 31 [nilC, vi 0, nilC, nilC, nilC] hn3)))) fun H4 hs5 => ?_
 have hz6 := posI_bd p l0
 have hz8 := posI_bd p l1
 have hz11 := posI_bd p l2
 refine rSz [(2, yp n1), (4, yp n3), (8, xi 2), (9, xi (posI p l2)), (10, xi 0)] H4 (zA 0 (qA 31 (On.at hs5 0 rfl)) (zA 1 (qL 38 0 (.agg [vi p.1, vi p.2.1]) (On.at hs5 1 rfl)) (zL 2 (qP2 H4 (rfind_2 false rn rc false u0 v0 false u1 v1 false u2 v2 S hand l0 l1 l2 p (by first | rfl | omega | (simp only [ek_]; omega) | (simp; done) | (simp; omega)) (by first | rfl | omega | (simp only [ek_]; omega) | (simp; done) | (simp; omega)) (by first | rfl | omega | (simp only [ek_]; omega) | (simp; done) | (simp; omega)) (by omega) (by omega) (by omega)))))) ?_
 refine wS ?_
 refine rs0 [(2, yp n1), (4, yp n3), (8, xi 2), (9, xi (posI p l2)), (10, xi 0), (19, xb false)] ?_
 refine wFk ?_
 obtain ⟨nl15, cp16, hp17⟩ := rwithout false u2 v2 l2 (posI p l2) (by first | rfl | omega | (simp only [ek_]; omega) | (simp; done) | (simp; omega)) (by omega) (by first | rfl | omega | (simp only [ek_]; omega) | (simp; done) | (simp; omega))
 have hlfz18 : ((l2.take ((posI p l2) : Int).toNat ++ l2.drop ((posI p l2) + 1 : Int).toNat).length : Int) = ((l2.length : Int) - 1) := by { first | rfl | omega | (simp only [ek_]; omega) | (simp; done) | (simp; omega) }
 refine rGz [(2, yp n1), (4, yp n3), (8, xi 2), (9, xi (posI p l2))] (On.put (.obj (wC rn rc u0 v0 u1 v1 nl15 cp16 S hand l0 l1 (l2.take ((posI p l2) : Int).toNat ++ l2.drop ((posI p l2) + 1 : Int).toNat))) hs5 0 rfl) (zA 4 (qL 23 4 (.one (sv EN false u2 v2 l2)) (On.at hs5 0 rfl)) (zA 6 (qP2 H4 hp17) (zL 9 (qS 23 4 (.one (sv EN false nl15 cp16 (l2.take ((posI p l2) : Int).toNat ++ l2.drop ((posI p l2) + 1 : Int).toNat))) (On.at hs5 0 rfl))))) fun H20 hs21 => ?_
 refine rGz [(4, yp n3), (5, xi 2), (6, xi (posI p l2)), (7, xi 0)] (On.put (.obj (wC rn rc u0 v0 u1 v1 nl15 cp16 S hand l0 l1 (l2.take ((posI p l2) : Int).toNat ++ l2.drop ((posI p l2) + 1 : Int).toNat))) hs21 2 rfl) (zA 0 (qA 31 (On.at hs21 0 rfl)) (zL 3 (qS 31 0 (.agg (wC rn rc u0 v0 u1 v1 nl15 cp16 S hand l0 l1 (l2.take ((posI p l2) : Int).toNat ++ l2.drop ((posI p l2) + 1 : Int).toNat))) (On.at hs21 2 rfl)))) fun H22 hs23 => ?_
 refine wE ?_
 refine ⟨Or.inr rfl, [.agg (wC rn rc u0 v0 u1 v1 nl15 cp16 S hand l0 l1 (l2.take ((posI p l2) : Int).toNat ++ l2.drop ((posI p l2) + 1 : Int).toNat)), .one (vi 2), .one (vi (posI p l2)), .one (vi 0)], (rC (On.at hs23 2 rfl)), ?_⟩
 have e9 : (l2.take ((posI p l2) : Int).toNat ++ l2.drop ((posI p l2) + 1 : Int).toNat) = (l2.take (posI p l2 : Int).toNat ++ l2.drop ((posI p l2) + 1 : Int).toNat) := by first | rfl | assumption | (simp; done) | (rw [eb_]; done) | (simp; omega) | (apply List.ext_getElem?; intro j; simp [eg_, ee_, ef_]; done) | first | rfl | (apply List.ext_getElem?; intro i; first | (simp only [ea_, eb_, ec_, ed_, ee_, ef_, eg_, eh_, ei_, ej_, ek_, el_, em_]; done) | ((try simp only [ea_, eb_, ec_, ed_, ee_, ef_, eg_, eh_, ei_, ej_, ek_, el_, em_]); (repeat' split) <;> first | rfl | (congr 1; omega) | (exfalso; omega) | (exact ep_ (by omega)) | (exact (ep_ (by omega)).symm)))
 rw [← e9]
 exact ⟨nl15, cp16, (by kernel_rfl)⟩
theorem rdrop_3 (rn rc u0 v0 u1 v1 u2 v2 : Bool) (S : List Int) (hand : Int) (l0 l1 l2 : List EN.T) (p : PN.T) (b0 : (l0.length : Int) ≤ 64) (b1 : (l1.length : Int) ≤ 64) (b2 : (l2.length : Int) ≤ 64) (h0 : posI p l0 < 0) (h1 : posI p l1 < 0) (h2 : posI p l2 < 0)  : PureC pg an 62 [.agg (wC rn rc u0 v0 u1 v1 u2 v2 S hand l0 l1 l2), .agg [vi p.1, vi p.2.1]] [.agg (wC rn rc u0 v0 u1 v1 u2 v2 S hand l0 l1 l2), .one (vi 0), .one (vi 0), .one (vi 3)] := by
 refine rOF Try.func62 rfl ?_
 obtain ⟨n1, hn1⟩ := lX []
 obtain ⟨n2, hn2⟩ := lX ([] ++ [.obj (wC rn rc u0 v0 u1 v1 u2 v2 S hand l0 l1 l2)])
 obtain ⟨n3, hn3⟩ := lX (([] ++ [.obj (wC rn rc u0 v0 u1 v1 u2 v2 S hand l0 l1 l2)]) ++ [.obj [vi p.1, vi p.2.1]])
 refine rGz [(2, yp n1), (3, yp n2), (4, yp n3)] (On.new' hn3 (.obj [nilC, vi 0, nilC, nilC, nilC]) (On.new' hn2 (.obj [vi p.1, vi p.2.1]) (On.new' hn1 (.obj (wC rn rc u0 v0 u1 v1 u2 v2 S hand l0 l1 l2)) (On.nil [])))) (zA 0 (qB 31 (wC rn rc u0 v0 u1 v1 u2 v2 S hand l0 l1 l2) hn1) (zA 1 (qB 38 [vi p.1, vi p.2.1] hn2) (zL 2 (qO 31 [nilC, vi 0, nilC, nilC, nilC] hn3)))) fun H4 hs5 => ?_
 have hz6 := posI_bd p l0
 have hz8 := posI_bd p l1
 have hz11 := posI_bd p l2
 refine rSz [(2, yp n1), (4, yp n3), (8, xi 0), (9, xi 0), (10, xi 3)] H4 (zA 0 (qA 31 (On.at hs5 0 rfl)) (zA 1 (qL 38 0 (.agg [vi p.1, vi p.2.1]) (On.at hs5 1 rfl)) (zL 2 (qP2 H4 (rfind_3 false rn rc false u0 v0 false u1 v1 false u2 v2 S hand l0 l1 l2 p (by first | rfl | omega | (simp only [ek_]; omega) | (simp; done) | (simp; omega)) (by first | rfl | omega | (simp only [ek_]; omega) | (simp; done) | (simp; omega)) (by first | rfl | omega | (simp only [ek_]; omega) | (simp; done) | (simp; omega)) (by omega) (by omega) (by omega)))))) ?_
 refine wS ?_
 refine rs0 [(2, yp n1), (4, yp n3), (8, xi 0), (9, xi 0), (10, xi 3), (19, xb true)] ?_
 refine wTa ?_
 refine rGz [(4, yp n3), (5, xi 0), (6, xi 0), (7, xi 3)] (On.put (.obj (wC rn rc u0 v0 u1 v1 u2 v2 S hand l0 l1 l2)) hs5 2 rfl) (zA 0 (qA 31 (On.at hs5 0 rfl)) (zL 2 (qS 31 0 (.agg (wC rn rc u0 v0 u1 v1 u2 v2 S hand l0 l1 l2)) (On.at hs5 2 rfl)))) fun H15 hs16 => ?_
 refine wE ?_
 refine ⟨Or.inr rfl, [.agg (wC rn rc u0 v0 u1 v1 u2 v2 S hand l0 l1 l2), .one (vi 0), .one (vi 0), .one (vi 3)], (rC (On.at hs16 2 rfl)), ?_⟩
 exact (by kernel_rfl)
theorem rempty_t (rn rc u0 v0 u1 v1 u2 v2 : Bool) (S : List Int) (hand : Int) (l0 l1 l2 : List EN.T) (b0 : (l0.length : Int) ≤ 64) (b1 : (l1.length : Int) ≤ 64) (b2 : (l2.length : Int) ≤ 64) (h0 : l0.length = 0) (h1 : l1.length = 0) (h2 : l2.length = 0)  : PureC pg an 49 [.agg (wC rn rc u0 v0 u1 v1 u2 v2 S hand l0 l1 l2)] [.one (vb true)] := by
 refine rOF Try.func49 rfl ?_
 obtain ⟨n1, hn1⟩ := lX []
 refine rGz [(1, yp n1)] (On.new' hn1 (.obj (wC rn rc u0 v0 u1 v1 u2 v2 S hand l0 l1 l2)) (On.nil [])) (zL 0 (qB 31 (wC rn rc u0 v0 u1 v1 u2 v2 S hand l0 l1 l2) hn1)) fun H2 hs3 => ?_
 refine rSz [(2, xb true)] H2 (zA 2 (qL 23 2 (.one (sv EN false u0 v0 l0)) (On.at hs3 0 rfl)) (zA 6 (qL 23 3 (.one (sv EN false u1 v1 l1)) (On.at hs3 0 rfl)) (zA 8 (qoAdd H2 (l0.length : Int) (l1.length : Int) ((l0.length : Int) + (l1.length : Int))) (zA 11 (qL 23 4 (.one (sv EN false u2 v2 l2)) (On.at hs3 0 rfl)) (zA 13 (qoAdd H2 ((l0.length : Int) + (l1.length : Int)) (l2.length : Int) ((l0.length : Int) + (l1.length : Int) + (l2.length : Int))) (zL 14 (Ja (vals := [xi ((l0.length : Int) + (l1.length : Int) + (l2.length : Int)), xi 0]) (H := H2) (op := .binOp .eql 3 (.tmp 0) (.tmp 1) 3) (ty := 0) (r := xb ((((l0.length : Int) + (l1.length : Int) + (l2.length : Int)) : Int) == 0)) (v := xb true) (by kernel_rfl) (congrArg (fun z => xb z) (beq_t (by omega)))))))))) ?_
 refine wE ?_
 refine ⟨Or.inr rfl, [.one (vb true)], (by kernel_rfl), ?_⟩
 exact (by kernel_rfl)
theorem rempty_f (rn rc u0 v0 u1 v1 u2 v2 : Bool) (S : List Int) (hand : Int) (l0 l1 l2 : List EN.T) (b0 : (l0.length : Int) ≤ 64) (b1 : (l1.length : Int) ≤ 64) (b2 : (l2.length : Int) ≤ 64) (h0 : 0 < l0.length + l1.length + l2.length)  : PureC pg an 49 [.agg (wC rn rc u0 v0 u1 v1 u2 v2 S hand l0 l1 l2)] [.one (vb false)] := by
 refine rOF Try.func49 rfl ?_
 obtain ⟨n1, hn1⟩ := lX []
 refine rGz [(1, yp n1)] (On.new' hn1 (.obj (wC rn rc u0 v0 u1 v1 u2 v2 S hand l0 l1 l2)) (On.nil [])) (zL 0 (qB 31 (wC rn rc u0 v0 u1 v1 u2 v2 S hand l0 l1 l2) hn1)) fun H2 hs3 => ?_
 refine rSz [(2, xb false)] H2 (zA 2 (qL 23 2 (.one (sv EN false u0 v0 l0)) (On.at hs3 0 rfl)) (zA 6 (qL 23 3 (.one (sv EN false u1 v1 l1)) (On.at hs3 0 rfl)) (zA 8 (qoAdd H2 (l0.length : Int) (l1.length : Int) ((l0.length : Int) + (l1.length : Int))) (zA 11 (qL 23 4 (.one (sv EN false u2 v2 l2)) (On.at hs3 0 rfl)) (zA 13 (qoAdd H2 ((l0.length : Int) + (l1.length : Int)) (l2.length : Int) ((l0.length : Int) + (l1.length : Int) + (l2.length : Int))) (zL 14 (Ja (vals := [xi ((l0.length : Int) + (l1.length : Int) + (l2.length : Int)), xi 0]) (H := H2) (op := .binOp .eql 3 (.tmp 0) (.tmp 1) 3) (ty := 0) (r := xb ((((l0.length : Int) + (l1.length : Int) + (l2.length : Int)) : Int) == 0)) (v := xb false) (by kernel_rfl) (congrArg (fun z => xb z) (beq_f (by omega)))))))))) ?_
 refine wE ?_
 refine ⟨Or.inr rfl, [.one (vb false)], (by kernel_rfl), ?_⟩
 exact (by kernel_rfl)
end Go.Proofs.Ytjdnhbnpdbpgbaa
