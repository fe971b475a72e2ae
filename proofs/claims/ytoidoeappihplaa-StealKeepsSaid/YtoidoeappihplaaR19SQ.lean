/-
  Steal: Load and Do by what matters; count. (Printed by sx/r19s.py.)
-/
import Derived.Test.YtoidoeappihplaaR19SP
namespace Go.Proofs.Ytoidoeappihplaa
open Go.Lg
set_option linter.unusedVariables false
set_option maxRecDepth 100000
set_option maxHeartbeats 8000000
set_option linter.unusedSimpArgs false
def Fine (S : List Int) (hand : Int) (l0 l1 l2 : List EN.T) : Prop := okW S = true ∧ (0 ≤ hand ∧ hand < (S.length : Int)) ∧ LoadOk l0 l1 l2 ∧ ((l0.length : Int) ≤ 64 ∧ (l1.length : Int) ≤ 64 ∧ (l2.length : Int) ≤ 64)
theorem load_two (R : HP) (H : Go.Lg.Heap) (b nn9 cp : Bool) (S : List Int) (hand : Int) (aa0 nn0 pp0 aa1 nn1 pp1 aa2 nn2 pp2 : Bool) (l0 l1 l2 : List EN.T) (hzl0 : (l0.length : Int) ≤ 5864062014805) (hzl1 : (l1.length : Int) ≤ 5864062014805) (hzl2 : (l2.length : Int) ≤ 5864062014805) (hs : On [R] H) (hsl : (S.length : Int) ≤ 4611686018427387904) (hnn : okW S = true → nn9 = false) :
    ∃ rs H', Runs pg an 23 [.one (sv NI b nn9 cp S), .one (vi hand), .agg [sv EN aa0 nn0 pp0 l0, sv EN aa1 nn1 pp1 l1, sv EN aa2 nn2 pp2 l2]] H rs H' ∧
      ((Fine S hand l0 l1 l2 ∧ ∃ c ks q0 q1 q2, rs = [.one (.ptr c 0), .one (vi 0)] ∧ On [R, pts c (.obj [rff ks S, vi hand, .ptr q0 0, .ptr q1 0, .ptr q2 0]), pts ks (rowO NI true 0 S), ringP EN q0 64 l0, ringP EN q1 64 l1, ringP EN q2 64 l2] H') ∨ (¬ Fine S hand l0 l1 l2 ∧ ∃ e, 1 ≤ e ∧ rs = [.one (.sc (.pointer none)), .one (vi e)] ∧ On [R] H')) := by
  obtain ⟨rs, H', h1, ⟨a, e, h⟩ | ⟨a, d, e, h⟩ | ⟨a, d, f, e, h⟩ | ⟨a, d, f, g, e, h⟩ | ⟨a, d, f, g, c, ks, q0, q1, q2, e, h⟩⟩ := load_s R H b nn9 cp S hand aa0 nn0 pp0 aa1 nn1 pp1 aa2 nn2 pp2 l0 l1 l2 (by omega) (by omega) (by omega) hs hsl hnn
  · exact ⟨rs, H', h1, .inr ⟨fun w => (by have := w.1; rw [a] at this; cases this), 20, by decide, e, h⟩⟩
  · exact ⟨rs, H', h1, .inr ⟨fun w => d w.2.2.1, 1, by decide, e, h⟩⟩
  · exact ⟨rs, H', h1, .inr ⟨fun w => by have := w.2.1; omega, 1, by decide, e, h⟩⟩
  · exact ⟨rs, H', h1, .inr ⟨fun w => by have := w.2.2.2; omega, 2, by decide, e, h⟩⟩
  · exact ⟨rs, H', h1, .inl ⟨⟨a, f, d, g⟩, c, ks, q0, q1, q2, e, h⟩⟩
theorem rload_fine (b nil cp0 : Bool) (S : List Int) (hsl : (S.length : Int) ≤ 4611686018427387904) (hand : Int) (aa0 nn0 pp0 aa1 nn1 pp1 aa2 nn2 pp2 : Bool) (l0 l1 l2 : List EN.T) (hzl0 : (l0.length : Int) ≤ 5864062014805) (hzl1 : (l1.length : Int) ≤ 5864062014805) (hzl2 : (l2.length : Int) ≤ 5864062014805) (hf : Fine S hand l0 l1 l2) : ∃ nl cp fy0 fz0 fy1 fz1 fy2 fz2 : Bool, PureC pg an 24 [.one (sv NI b nil cp0 S), .one (vi hand), .agg [sv EN aa0 nn0 pp0 l0, sv EN aa1 nn1 pp1 l1, sv EN aa2 nn2 pp2 l2]] [.agg [sv NI false nl cp S, vi hand, sv EN false fy0 fz0 l0, sv EN false fy1 fz1 l1, sv EN false fy2 fz2 l2], .one (vi 0)] := by
  obtain ⟨f1, f2, f3, f4⟩ := hf
  rcases rload b nil cp0 S hsl hand aa0 nn0 pp0 aa1 nn1 pp1 aa2 nn2 pp2 l0 l1 l2 hzl0 hzl1 hzl2 with ⟨a, h⟩ | ⟨a, c, h⟩ | ⟨a, c, d, h⟩ | ⟨a, c, d, e, h⟩ | ⟨a, c, d, e, g, i, h⟩
  · rw [f1] at a; cases a
  · exfalso; omega
  · exact absurd f3 d
  · exfalso; omega
  · exact h
theorem rload_not (b nil cp0 : Bool) (S : List Int) (hsl : (S.length : Int) ≤ 4611686018427387904) (hand : Int) (aa0 nn0 pp0 aa1 nn1 pp1 aa2 nn2 pp2 : Bool) (l0 l1 l2 : List EN.T) (hzl0 : (l0.length : Int) ≤ 5864062014805) (hzl1 : (l1.length : Int) ≤ 5864062014805) (hzl2 : (l2.length : Int) ≤ 5864062014805) (hf : ¬ Fine S hand l0 l1 l2) : ∃ e : Int, 1 ≤ e ∧ PureC pg an 24 [.one (sv NI b nil cp0 S), .one (vi hand), .agg [sv EN aa0 nn0 pp0 l0, sv EN aa1 nn1 pp1 l1, sv EN aa2 nn2 pp2 l2]] [.agg [nilC, vi 0, nilC, nilC, nilC], .one (vi e)] := by
  rcases rload b nil cp0 S hsl hand aa0 nn0 pp0 aa1 nn1 pp1 aa2 nn2 pp2 l0 l1 l2 hzl0 hzl1 hzl2 with ⟨a, h⟩ | ⟨a, c, h⟩ | ⟨a, c, d, h⟩ | ⟨a, c, d, e, h⟩ | ⟨a, c, d, e, g, i, h⟩
  · exact ⟨20, by decide, h⟩
  · exact ⟨1, by decide, h⟩
  · exact ⟨1, by decide, h⟩
  · exact ⟨2, by decide, h⟩
  · exact absurd ⟨a, c, d, e, g, i⟩ hf
def Hs (z cls n r : Int) (t v T V : List EN.T) : Prop := (cls = z ∧ n ≤ half v ∧ n ≤ r ∧ n ≤ (v.length : Int) ∧ V = v.take ((v.length : Int) - n).toNat ∧ T = t ++ pin (v.drop ((v.length : Int) - n).toNat)) ∨ (cls ≠ z ∧ V = v ∧ T = t)
theorem do_two (R : HP) (H : Go.Lg.Heap) (c ks q0 q1 q2 : Nat) (S : List Int) (hand : Int) (t0 t1 t2 : List EN.T) (d kv w0 w1 w2 : Nat) (S2 : List Int) (hand2 : Int) (v0 v1 v2 : List EN.T) (r0 r1 r2 : Int) (hs : On [R, pts c (.obj [rff ks S, vi hand, .ptr q0 0, .ptr q1 0, .ptr q2 0]), pts ks (rowO NI true 0 S), ringP EN q0 64 t0, ringP EN q1 64 t1, ringP EN q2 64 t2, pts d (.obj [rff kv S2, vi hand2, .ptr w0 0, .ptr w1 0, .ptr w2 0]), pts kv (rowO NI true 0 S2), ringP EN w0 64 v0, ringP EN w1 64 v1, ringP EN w2 64 v2] H) (hS : 3 ≤ (S.length : Int)) (hT : (S.length : Int) ≤ 64) (hS2 : 3 ≤ (S2.length : Int)) (hT2 : (S2.length : Int) ≤ 64) (bt0 : (t0.length : Int) ≤ 64) (bt1 : (t1.length : Int) ≤ 64) (bt2 : (t2.length : Int) ≤ 64) (bv0 : (v0.length : Int) ≤ 64) (bv1 : (v1.length : Int) ≤ 64) (bv2 : (v2.length : Int) ≤ 64) (hvok : LoadOk v0 v1 v2) : ∃ rs H', Runs pg an 15 [.one (.ptr c 0), .one (.ptr d 0), .agg [vi r0, vi r1, vi r2]] H rs H' ∧ ((∃ e, 1 ≤ e ∧ rs = [.one (vi 0), .one (nilC), .one (vi e)] ∧ On [R, pts c (.obj [rff ks S, vi hand, .ptr q0 0, .ptr q1 0, .ptr q2 0]), pts ks (rowO NI true 0 S), ringP EN q0 64 t0, ringP EN q1 64 t1, ringP EN q2 64 t2, pts d (.obj [rff kv S2, vi hand2, .ptr w0 0, .ptr w1 0, .ptr w2 0]), pts kv (rowO NI true 0 S2), ringP EN w0 64 v0, ringP EN w1 64 v1, ringP EN w2 64 v2] H') ∨ ((t0.length = 0 ∧ t1.length = 0 ∧ t2.length = 0) ∧ ∃ cls n Y0 Y1 Y2 Z0 Z1 Z2 k', (∃ L9 : List EN.T, (0 ≤ cls ∧ cls < 3) ∧ 0 < n ∧ (L9.length : Int) = n ∧ Hs 0 cls n r0 t0 v0 Y0 Z0 ∧ Hs 1 cls n r1 t1 v1 Y1 Z1 ∧ Hs 2 cls n r2 t2 v2 Y2 Z2 ∧ rs = [.one (vi cls), .one (rft k' L9), .one (vi 0)] ∧ On [R, pts c (.obj [rff ks S, vi hand, .ptr q0 0, .ptr q1 0, .ptr q2 0]), pts ks (rowO NI true 0 S), ringP EN q0 64 Y0, ringP EN q1 64 Y1, ringP EN q2 64 Y2, pts d (.obj [rff kv S2, vi hand2, .ptr w0 0, .ptr w1 0, .ptr w2 0]), pts kv (rowO NI true 0 S2), ringP EN w0 64 Z0, ringP EN w1 64 Z1, ringP EN w2 64 Z2, pts k' (rowO EN true 0 L9)] H'))) := by
  obtain ⟨rs, H', h1, ⟨_, e, h⟩ | ⟨_, _, e, h⟩ | ⟨_, _, _, e, h⟩ | ⟨_, em, n, k', a1, a2, a3, a4, _, e, h⟩ | ⟨_, em, n, k', a1, a2, a3, a4, _, e, h⟩ | ⟨_, em, n, k', a1, a2, a3, a4, _, e, h⟩⟩ := do_all R H c ks q0 q1 q2 S hand t0 t1 t2 d kv w0 w1 w2 S2 hand2 v0 v1 v2 r0 r1 r2 hs hS hT hS2 hT2 bt0 bt1 bt2 bv0 bv1 bv2 hvok
  · exact ⟨rs, H', h1, .inl ⟨1, by decide, e, h⟩⟩
  · exact ⟨rs, H', h1, .inl ⟨2, by decide, e, h⟩⟩
  · exact ⟨rs, H', h1, .inl ⟨3, by decide, e, h⟩⟩
  · exact ⟨rs, H', h1, .inr ⟨em, 0, n, _, _, _, _, _, _, k', _, by omega, a1, by simp only [List.length_append, List.length_map, List.length_drop]; omega, .inl ⟨rfl, a2, a3, a4, rfl, rfl⟩, .inr ⟨by decide, rfl, rfl⟩, .inr ⟨by decide, rfl, rfl⟩, e, h⟩⟩
  · exact ⟨rs, H', h1, .inr ⟨em, 1, n, _, _, _, _, _, _, k', _, by omega, a1, by simp only [List.length_append, List.length_map, List.length_drop]; omega, .inr ⟨by decide, rfl, rfl⟩, .inl ⟨rfl, a2, a3, a4, rfl, rfl⟩, .inr ⟨by decide, rfl, rfl⟩, e, h⟩⟩
  · exact ⟨rs, H', h1, .inr ⟨em, 2, n, _, _, _, _, _, _, k', _, by omega, a1, by simp only [List.length_append, List.length_map, List.length_drop]; omega, .inr ⟨by decide, rfl, rfl⟩, .inr ⟨by decide, rfl, rfl⟩, .inl ⟨rfl, a2, a3, a4, rfl, rfl⟩, e, h⟩⟩
theorem do_one (R : HP) (H : Go.Lg.Heap) (c ks q0 q1 q2 : Nat) (S : List Int) (hand : Int) (t0 t1 t2 : List EN.T) (d kv w0 w1 w2 : Nat) (S2 : List Int) (hand2 : Int) (v0 v1 v2 : List EN.T) (r0 r1 r2 : Int) (hs : On [R, pts c (.obj [rff ks S, vi hand, .ptr q0 0, .ptr q1 0, .ptr q2 0]), pts ks (rowO NI true 0 S), ringP EN q0 64 t0, ringP EN q1 64 t1, ringP EN q2 64 t2, pts d (.obj [rff kv S2, vi hand2, .ptr w0 0, .ptr w1 0, .ptr w2 0]), pts kv (rowO NI true 0 S2), ringP EN w0 64 v0, ringP EN w1 64 v1, ringP EN w2 64 v2] H) (hS : 3 ≤ (S.length : Int)) (hT : (S.length : Int) ≤ 64) (hS2 : 3 ≤ (S2.length : Int)) (hT2 : (S2.length : Int) ≤ 64) (bt0 : (t0.length : Int) ≤ 64) (bt1 : (t1.length : Int) ≤ 64) (bt2 : (t2.length : Int) ≤ 64) (bv0 : (v0.length : Int) ≤ 64) (bv1 : (v1.length : Int) ≤ 64) (bv2 : (v2.length : Int) ≤ 64) (hvok : LoadOk v0 v1 v2) : ∃ rs H', Runs pg an 15 [.one (.ptr c 0), .one (.ptr d 0), .agg [vi r0, vi r1, vi r2]] H rs H' ∧ ∃ cls n e, ∃ lc : C, ∃ L9 Y0 Y1 Y2 Z0 Z1 Z2 : List EN.T, ((1 ≤ e ∧ L9 = [] ∧ Y0 = t0 ∧ Y1 = t1 ∧ Y2 = t2 ∧ Z0 = v0 ∧ Z1 = v1 ∧ Z2 = v2) ∨ (e = 0 ∧ (t0.length = 0 ∧ t1.length = 0 ∧ t2.length = 0) ∧ (0 ≤ cls ∧ cls < 3) ∧ 0 < n ∧ (L9.length : Int) = n ∧ Hs 0 cls n r0 t0 v0 Y0 Z0 ∧ Hs 1 cls n r1 t1 v1 Y1 Z1 ∧ Hs 2 cls n r2 t2 v2 Y2 Z2)) ∧ rs = [.one (vi cls), .one lc, .one (vi e)] ∧ On [R, pts c (.obj [rff ks S, vi hand, .ptr q0 0, .ptr q1 0, .ptr q2 0]), pts ks (rowO NI true 0 S), ringP EN q0 64 Y0, ringP EN q1 64 Y1, ringP EN q2 64 Y2, pts d (.obj [rff kv S2, vi hand2, .ptr w0 0, .ptr w1 0, .ptr w2 0]), pts kv (rowO NI true 0 S2), ringP EN w0 64 Z0, ringP EN w1 64 Z1, ringP EN w2 64 Z2, itemsP EN lc L9] H' := by
  obtain ⟨rs, H', h1, ⟨e, a, b, h⟩ | ⟨em, cls, n, Y0, Y1, Y2, Z0, Z1, Z2, k', L9, a1, a2, a3, a4, a5, a6, b, h⟩⟩ := do_two R H c ks q0 q1 q2 S hand t0 t1 t2 d kv w0 w1 w2 S2 hand2 v0 v1 v2 r0 r1 r2 hs hS hT hS2 hT2 bt0 bt1 bt2 bv0 bv1 bv2 hvok
  · exact ⟨rs, H', h1, 0, 0, e, nilC, [], t0, t1, t2, v0, v1, v2, .inl ⟨a, rfl, rfl, rfl, rfl, rfl, rfl, rfl⟩, b, On.addNil h⟩
  · exact ⟨rs, H', h1, cls, n, 0, _, L9, Y0, Y1, Y2, Z0, Z1, Z2, .inr ⟨rfl, em, a1, a2, a3, a4, a5, a6⟩, b, On.last (cs := [R, pts c (.obj [rff ks S, vi hand, .ptr q0 0, .ptr q1 0, .ptr q2 0]), pts ks (rowO NI true 0 S), ringP EN q0 64 Y0, ringP EN q1 64 Y1, ringP EN q2 64 Y2, pts d (.obj [rff kv S2, vi hand2, .ptr w0 0, .ptr w1 0, .ptr w2 0]), pts kv (rowO NI true 0 S2), ringP EN w0 64 Z0, ringP EN w1 64 Z1, ringP EN w2 64 Z2]) (fun _ x => items_row rfl (by omega) (fun h => by cases h) (by rw [List.drop_zero, List.take_of_length_le (Nat.le_refl _)]) (SL_one x)) h⟩
theorem count_0 (b0 c0 d0 : Bool) (b1 c1 d1 : Bool) (b2 c2 d2 : Bool) (l0 l1 l2 : List EN.T) (p : PN.T) (hl0 : (l0.length : Int) ≤ 65536) (hl1 : (l1.length : Int) ≤ 65536) (hl2 : (l2.length : Int) ≤ 65536) (h0 : posI p l0 < 0) (h1 : posI p l1 < 0) (h2 : posI p l2 < 0)  : PureC pg an 20 [.agg [sv EN b0 c0 d0 l0, sv EN b1 c1 d1 l1, sv EN b2 c2 d2 l2], .agg [vi p.1, vi p.2.1]] [.one (vi 0)] := by
 suffices h : ∃ rs H', Runs pg an 20 [.agg [sv EN b0 c0 d0 l0, sv EN b1 c1 d1 l1, sv EN b2 c2 d2 l2], .agg [vi p.1, vi p.2.1]] [] rs H' ∧ rs.mapM (backY H') = some [.one (vi 0)] by
  obtain ⟨rs, H', h1, h2⟩ := h
  exact ⟨rs, H', h1, h2⟩
 refine Runs.of (fn := Try.f20) Try.func20 rfl (by kernel_rfl) [(0, .y (.agg [sv EN b0 c0 d0 l0, sv EN b1 c1 d1 l1, sv EN b2 c2 d2 l2])), (1, .y (.agg [vi p.1, vi p.2.1]))] (by kernel_rfl) ?_
 obtain ⟨n1, hn1⟩ : ∃ n, n = List.length ([] : Go.Lg.Heap) := ⟨_, rfl⟩
 obtain ⟨n2, hn2⟩ : ∃ n, n = List.length (([] ++ [.obj [sv EN b0 c0 d0 l0, sv EN b1 c1 d1 l1, sv EN b2 c2 d2 l2]]) : Go.Lg.Heap) := ⟨_, rfl⟩
 refine rSq [(0, yp n1, ([] ++ [.obj [sv EN b0 c0 d0 l0, sv EN b1 c1 d1 l1, sv EN b2 c2 d2 l2]])), (1, yp n2, (([] ++ [.obj [sv EN b0 c0 d0 l0, sv EN b1 c1 d1 l1, sv EN b2 c2 d2 l2]]) ++ [.obj [vi p.1, vi p.2.1]]))] [(2, yp n1), (3, yp n2)] (([] ++ [.obj [sv EN b0 c0 d0 l0, sv EN b1 c1 d1 l1, sv EN b2 c2 d2 l2]]) ++ [.obj [vi p.1, vi p.2.1]])
   (cast (Jai (Jo (H := []) (t := 23) (ty := 0) (n := n1) (v := .agg [sv EN b0 c0 d0 l0, sv EN b1 c1 d1 l1, sv EN b2 c2 d2 l2]) (cs := [sv EN b0 c0 d0 l0, sv EN b1 c1 d1 l1, sv EN b2 c2 d2 l2]) hn1 (by kernel_rfl) (by kernel_rfl) (by kernel_rfl)) (Jai (Jo (H := ([] ++ [.obj [sv EN b0 c0 d0 l0, sv EN b1 c1 d1 l1, sv EN b2 c2 d2 l2]])) (t := 33) (ty := 0) (n := n2) (v := .agg [vi p.1, vi p.2.1]) (cs := [vi p.1, vi p.2.1]) hn2 (by kernel_rfl) (by kernel_rfl) (by kernel_rfl)) trivial)) (by kernel_rfl)) (by kernel_rfl) ?_
 refine Wp.gen (cs := [pts n1 (.obj [sv EN b0 c0 d0 l0, sv EN b1 c1 d1 l1, sv EN b2 c2 d2 l2]), pts n2 (.obj [vi p.1, vi p.2.1])]) (On.new' hn2 (.obj [vi p.1, vi p.2.1]) (On.new' hn1 (.obj [sv EN b0 c0 d0 l0, sv EN b1 c1 d1 l1, sv EN b2 c2 d2 l2]) (On.nil []))) ?_
 intro H3 hs4
 refine rS0 [(2, yp n1), (3, yp n2), (5, xi 0)] (by kernel_rfl) (by kernel_rfl) ?_
 refine Wp.seq ?_
 refine rS0 [(2, yp n1), (3, yp n2), (5, xi 0), (6, xi 0)] (by kernel_rfl) (by kernel_rfl) ?_
 refine Wp.block ?_
 refine Wp.loopU [(2, yp n1), (3, yp n2), (5, xi 0), (6, xi 0)] (some ([2, 3, 5, 6], false)) (List.length H3) (by kernel_rfl) ?_
 refine WpL.step ?_
 refine Wp.seq ?_
 refine rS0 [(2, yp n1), (3, yp n2), (5, xi 0), (6, xi 0), (9, xb true)] (by kernel_rfl) (by kernel_rfl) ?_
 refine Wp.condT (by kernel_rfl) (Wp.skip ?_)
 refine Wp.seq (Wp.block ?_)
 refine rS0 [(2, yp n1), (3, yp n2), (5, xi 0), (6, xi 0), (7, xi 0)] (by kernel_rfl) (by kernel_rfl) ?_
 refine Wp.block ?_
 refine Wp.loop (T := Go.Lg.Heap × Int) (fun (t : Go.Lg.Heap × Int) => match t with | (H6, i0) => (((l0.length : Int) - i0).toNat : Nat)) (fun (t : Go.Lg.Heap × Int) => match t with | (H6, i0) => ([(2, yp n1), (3, yp n2), (5, xi 0), (6, xi 0), (7, xi i0)] : Env)) (fun (t : Go.Lg.Heap × Int) => match t with | (H6, i0) => (H6 : Go.Lg.Heap))
   (fun (t : Go.Lg.Heap × Int) => match t with | (H6, i0) => (On [pts n1 (.obj [sv EN b0 c0 d0 l0, sv EN b1 c1 d1 l1, sv EN b2 c2 d2 l2]), pts n2 (.obj [vi p.1, vi p.2.1])] H6 ∧ (0 ≤ i0) ∧ (i0 ≤ (l0.length : Int)) : Prop)) (H3, 0) (by kernel_rfl) (⟨(On.pick [0, 1] [] (by kernel_rfl) hs4), by omega, by omega⟩) ?_
 rintro ⟨H6, i0⟩ ⟨hs7, g1i0, g2i0⟩
 show Wp _ _ _ _ [(2, yp n1), (3, yp n2), (5, xi 0), (6, xi 0), (7, xi i0)] H6 _
 refine Wp.seq ?_
 by_cases c8 : (i0 : Int) < (l0.length : Int)
 ·
  refine rSq [(3, .y (.one (sv EN b0 c0 d0 l0)), H6), (5, xb true, H6)] [(2, yp n1), (3, yp n2), (5, xi 0), (6, xi 0), (7, xi i0), (17, xb true)] H6
    (cast (Jai (Ja (t := 22) (off := 0) (v := .one (sv EN b0 c0 d0 l0)) (On.at hs7 0 rfl) (by kernel_rfl)) (Jai (Ji (H := H6) (t := 3) (u := 3) (a := i0) (b := (l0.length : Int)) (by omega)) trivial)) (by kernel_rfl)) (by kernel_rfl) ?_
  refine Wp.condT (by kernel_rfl) (Wp.skip ?_)
  refine Wp.seq (Wp.block ?_)
  obtain ⟨x9, hx9⟩ : ∃ x, l0[(i0 : Int).toNat]? = some x := get_of (by omega)
  have hm10 := posI_lt h0 x9 (List.mem_of_getElem? hx9)
  refine rSq [(2, .y (.one (sv EN b0 c0 d0 l0)), H6), (4, .y (.one (.rd ([vi x9.1.1, vi x9.1.2.1, vb x9.2.1] ++ (l0.drop ((i0 : Int).toNat + 1)).flatMap (enc EN)))), H6), (7, .y (.agg [vi p.1, vi p.2.1]), H6), (8, xb false, H6)] [(2, yp n1), (3, yp n2), (5, xi 0), (6, xi 0), (7, xi i0), (28, xb false)] H6
    (cast (Jai (Ja (t := 22) (off := 0) (v := .one (sv EN b0 c0 d0 l0)) (On.at hs7 0 rfl) (by kernel_rfl)) (Jai (Jd (H := H6) (s := EN) (b := b0) (nil := c0) (capd := d0) (t := 22) (el := 35) (i := i0) Try.underlying22 (by kernel_rfl) (by kernel_rfl) (by omega) hx9) (Jai (Ja (t := 33) (off := 0) (v := .agg [vi p.1, vi p.2.1]) (On.at hs7 1 rfl) (by kernel_rfl)) (Jai (Jr (H := H6) (s := PN) (t := 33) (u := 33) (ty := 0) (x := x9.1) (y := p) (r := false) (by kernel_rfl) hm10) trivial)))) (by kernel_rfl)) (by kernel_rfl) ?_
  refine Wp.condF (by kernel_rfl) (Wp.skip ?_)
  refine Wp.region [(1, xi (i0 + 1), H6)] [(2, yp n1), (3, yp n2), (5, xi 0), (6, xi 0), (7, xi (i0 + 1))] H6
    (cast (Jai (Jk (H := H6) (t := 3) (u := 3) (a := i0) (b := 1) (c := (i0 + 1)) (by omega)) trivial) (by kernel_rfl)) (by kernel_rfl) ?_
  exact ⟨(H6, (i0 + 1)), by kernel_rfl, (⟨(On.pick [0, 1] [] (by kernel_rfl) hs7), by omega, by omega⟩), (by show (_ : Nat) < _; simp only []; omega)⟩
 ·
  refine rSq [(3, .y (.one (sv EN b0 c0 d0 l0)), H6), (5, xb false, H6)] [(2, yp n1), (3, yp n2), (5, xi 0), (6, xi 0), (7, xi i0), (17, xb false)] H6
    (cast (Jai (Ja (t := 22) (off := 0) (v := .one (sv EN b0 c0 d0 l0)) (On.at hs7 0 rfl) (by kernel_rfl)) (Jai (Jf (H := H6) (t := 3) (u := 3) (a := i0) (b := (l0.length : Int)) (by omega)) trivial)) (by kernel_rfl)) (by kernel_rfl) ?_
  refine Wp.condF (by kernel_rfl) ?_
  refine Wp.exit ?_
  refine Eq.mpr (if_pos rfl) ?_
  refine Wp.region [] [(2, yp n1), (3, yp n2), (5, xi 0), (6, xi 1)] H6
    (cast trivial (by kernel_rfl)) (by kernel_rfl) ?_
  refine ⟨[(2, yp n1), (3, yp n2), (5, xi 0), (6, xi 1)], H6, by kernel_rfl, ?_⟩
  refine WpL.step ?_
  refine Wp.seq ?_
  refine rS0 [(2, yp n1), (3, yp n2), (5, xi 0), (6, xi 1), (9, xb true)] (by kernel_rfl) (by kernel_rfl) ?_
  refine Wp.condT (by kernel_rfl) (Wp.skip ?_)
  refine Wp.seq (Wp.block ?_)
  refine rS0 [(2, yp n1), (3, yp n2), (5, xi 0), (6, xi 1), (7, xi 0)] (by kernel_rfl) (by kernel_rfl) ?_
  refine Wp.block ?_
  refine Wp.loop (T := Go.Lg.Heap × Int) (fun (t : Go.Lg.Heap × Int) => match t with | (H12, i1) => (((l1.length : Int) - i1).toNat : Nat)) (fun (t : Go.Lg.Heap × Int) => match t with | (H12, i1) => ([(2, yp n1), (3, yp n2), (5, xi 0), (6, xi 1), (7, xi i1)] : Env)) (fun (t : Go.Lg.Heap × Int) => match t with | (H12, i1) => (H12 : Go.Lg.Heap))
    (fun (t : Go.Lg.Heap × Int) => match t with | (H12, i1) => (On [pts n1 (.obj [sv EN b0 c0 d0 l0, sv EN b1 c1 d1 l1, sv EN b2 c2 d2 l2]), pts n2 (.obj [vi p.1, vi p.2.1])] H12 ∧ (0 ≤ i1) ∧ (i1 ≤ (l1.length : Int)) : Prop)) (H6, 0) (by kernel_rfl) (⟨(On.pick [0, 1] [] (by kernel_rfl) hs7), by omega, by omega⟩) ?_
  rintro ⟨H12, i1⟩ ⟨hs13, g1i1, g2i1⟩
  show Wp _ _ _ _ [(2, yp n1), (3, yp n2), (5, xi 0), (6, xi 1), (7, xi i1)] H12 _
  refine Wp.seq ?_
  by_cases c14 : (i1 : Int) < (l1.length : Int)
  ·
   refine rSq [(3, .y (.one (sv EN b1 c1 d1 l1)), H12), (5, xb true, H12)] [(2, yp n1), (3, yp n2), (5, xi 0), (6, xi 1), (7, xi i1), (17, xb true)] H12
     (cast (Jai (Ja (t := 22) (off := 1) (v := .one (sv EN b1 c1 d1 l1)) (On.at hs13 0 rfl) (by kernel_rfl)) (Jai (Ji (H := H12) (t := 3) (u := 3) (a := i1) (b := (l1.length : Int)) (by omega)) trivial)) (by kernel_rfl)) (by kernel_rfl) ?_
   refine Wp.condT (by kernel_rfl) (Wp.skip ?_)
   refine Wp.seq (Wp.block ?_)
   obtain ⟨x15, hx15⟩ : ∃ x, l1[(i1 : Int).toNat]? = some x := get_of (by omega)
   have hm16 := posI_lt h1 x15 (List.mem_of_getElem? hx15)
   refine rSq [(2, .y (.one (sv EN b1 c1 d1 l1)), H12), (4, .y (.one (.rd ([vi x15.1.1, vi x15.1.2.1, vb x15.2.1] ++ (l1.drop ((i1 : Int).toNat + 1)).flatMap (enc EN)))), H12), (7, .y (.agg [vi p.1, vi p.2.1]), H12), (8, xb false, H12)] [(2, yp n1), (3, yp n2), (5, xi 0), (6, xi 1), (7, xi i1), (28, xb false)] H12
     (cast (Jai (Ja (t := 22) (off := 1) (v := .one (sv EN b1 c1 d1 l1)) (On.at hs13 0 rfl) (by kernel_rfl)) (Jai (Jd (H := H12) (s := EN) (b := b1) (nil := c1) (capd := d1) (t := 22) (el := 35) (i := i1) Try.underlying22 (by kernel_rfl) (by kernel_rfl) (by omega) hx15) (Jai (Ja (t := 33) (off := 0) (v := .agg [vi p.1, vi p.2.1]) (On.at hs13 1 rfl) (by kernel_rfl)) (Jai (Jr (H := H12) (s := PN) (t := 33) (u := 33) (ty := 0) (x := x15.1) (y := p) (r := false) (by kernel_rfl) hm16) trivial)))) (by kernel_rfl)) (by kernel_rfl) ?_
   refine Wp.condF (by kernel_rfl) (Wp.skip ?_)
   refine Wp.region [(1, xi (i1 + 1), H12)] [(2, yp n1), (3, yp n2), (5, xi 0), (6, xi 1), (7, xi (i1 + 1))] H12
     (cast (Jai (Jk (H := H12) (t := 3) (u := 3) (a := i1) (b := 1) (c := (i1 + 1)) (by omega)) trivial) (by kernel_rfl)) (by kernel_rfl) ?_
   exact ⟨(H12, (i1 + 1)), by kernel_rfl, (⟨(On.pick [0, 1] [] (by kernel_rfl) hs13), by omega, by omega⟩), (by show (_ : Nat) < _; simp only []; omega)⟩
  ·
   refine rSq [(3, .y (.one (sv EN b1 c1 d1 l1)), H12), (5, xb false, H12)] [(2, yp n1), (3, yp n2), (5, xi 0), (6, xi 1), (7, xi i1), (17, xb false)] H12
     (cast (Jai (Ja (t := 22) (off := 1) (v := .one (sv EN b1 c1 d1 l1)) (On.at hs13 0 rfl) (by kernel_rfl)) (Jai (Jf (H := H12) (t := 3) (u := 3) (a := i1) (b := (l1.length : Int)) (by omega)) trivial)) (by kernel_rfl)) (by kernel_rfl) ?_
   refine Wp.condF (by kernel_rfl) ?_
   refine Wp.exit ?_
   refine Eq.mpr (if_pos rfl) ?_
   refine Wp.region [] [(2, yp n1), (3, yp n2), (5, xi 0), (6, xi 2)] H12
     (cast trivial (by kernel_rfl)) (by kernel_rfl) ?_
   refine ⟨[(2, yp n1), (3, yp n2), (5, xi 0), (6, xi 2)], H12, by kernel_rfl, ?_⟩
   refine WpL.step ?_
   refine Wp.seq ?_
   refine rS0 [(2, yp n1), (3, yp n2), (5, xi 0), (6, xi 2), (9, xb true)] (by kernel_rfl) (by kernel_rfl) ?_
   refine Wp.condT (by kernel_rfl) (Wp.skip ?_)
   refine Wp.seq (Wp.block ?_)
   refine rS0 [(2, yp n1), (3, yp n2), (5, xi 0), (6, xi 2), (7, xi 0)] (by kernel_rfl) (by kernel_rfl) ?_
   refine Wp.block ?_
   refine Wp.loop (T := Go.Lg.Heap × Int) (fun (t : Go.Lg.Heap × Int) => match t with | (H18, i2) => (((l2.length : Int) - i2).toNat : Nat)) (fun (t : Go.Lg.Heap × Int) => match t with | (H18, i2) => ([(2, yp n1), (3, yp n2), (5, xi 0), (6, xi 2), (7, xi i2)] : Env)) (fun (t : Go.Lg.Heap × Int) => match t with | (H18, i2) => (H18 : Go.Lg.Heap))
     (fun (t : Go.Lg.Heap × Int) => match t with | (H18, i2) => (On [pts n1 (.obj [sv EN b0 c0 d0 l0, sv EN b1 c1 d1 l1, sv EN b2 c2 d2 l2]), pts n2 (.obj [vi p.1, vi p.2.1])] H18 ∧ (0 ≤ i2) ∧ (i2 ≤ (l2.length : Int)) : Prop)) (H12, 0) (by kernel_rfl) (⟨(On.pick [0, 1] [] (by kernel_rfl) hs13), by omega, by omega⟩) ?_
   rintro ⟨H18, i2⟩ ⟨hs19, g1i2, g2i2⟩
   show Wp _ _ _ _ [(2, yp n1), (3, yp n2), (5, xi 0), (6, xi 2), (7, xi i2)] H18 _
   refine Wp.seq ?_
   by_cases c20 : (i2 : Int) < (l2.length : Int)
   ·
    refine rSq [(3, .y (.one (sv EN b2 c2 d2 l2)), H18), (5, xb true, H18)] [(2, yp n1), (3, yp n2), (5, xi 0), (6, xi 2), (7, xi i2), (17, xb true)] H18
      (cast (Jai (Ja (t := 22) (off := 2) (v := .one (sv EN b2 c2 d2 l2)) (On.at hs19 0 rfl) (by kernel_rfl)) (Jai (Ji (H := H18) (t := 3) (u := 3) (a := i2) (b := (l2.length : Int)) (by omega)) trivial)) (by kernel_rfl)) (by kernel_rfl) ?_
    refine Wp.condT (by kernel_rfl) (Wp.skip ?_)
    refine Wp.seq (Wp.block ?_)
    obtain ⟨x21, hx21⟩ : ∃ x, l2[(i2 : Int).toNat]? = some x := get_of (by omega)
    have hm22 := posI_lt h2 x21 (List.mem_of_getElem? hx21)
    refine rSq [(2, .y (.one (sv EN b2 c2 d2 l2)), H18), (4, .y (.one (.rd ([vi x21.1.1, vi x21.1.2.1, vb x21.2.1] ++ (l2.drop ((i2 : Int).toNat + 1)).flatMap (enc EN)))), H18), (7, .y (.agg [vi p.1, vi p.2.1]), H18), (8, xb false, H18)] [(2, yp n1), (3, yp n2), (5, xi 0), (6, xi 2), (7, xi i2), (28, xb false)] H18
      (cast (Jai (Ja (t := 22) (off := 2) (v := .one (sv EN b2 c2 d2 l2)) (On.at hs19 0 rfl) (by kernel_rfl)) (Jai (Jd (H := H18) (s := EN) (b := b2) (nil := c2) (capd := d2) (t := 22) (el := 35) (i := i2) Try.underlying22 (by kernel_rfl) (by kernel_rfl) (by omega) hx21) (Jai (Ja (t := 33) (off := 0) (v := .agg [vi p.1, vi p.2.1]) (On.at hs19 1 rfl) (by kernel_rfl)) (Jai (Jr (H := H18) (s := PN) (t := 33) (u := 33) (ty := 0) (x := x21.1) (y := p) (r := false) (by kernel_rfl) hm22) trivial)))) (by kernel_rfl)) (by kernel_rfl) ?_
    refine Wp.condF (by kernel_rfl) (Wp.skip ?_)
    refine Wp.region [(1, xi (i2 + 1), H18)] [(2, yp n1), (3, yp n2), (5, xi 0), (6, xi 2), (7, xi (i2 + 1))] H18
      (cast (Jai (Jk (H := H18) (t := 3) (u := 3) (a := i2) (b := 1) (c := (i2 + 1)) (by omega)) trivial) (by kernel_rfl)) (by kernel_rfl) ?_
    exact ⟨(H18, (i2 + 1)), by kernel_rfl, (⟨(On.pick [0, 1] [] (by kernel_rfl) hs19), by omega, by omega⟩), (by show (_ : Nat) < _; simp only []; omega)⟩
   ·
    refine rSq [(3, .y (.one (sv EN b2 c2 d2 l2)), H18), (5, xb false, H18)] [(2, yp n1), (3, yp n2), (5, xi 0), (6, xi 2), (7, xi i2), (17, xb false)] H18
      (cast (Jai (Ja (t := 22) (off := 2) (v := .one (sv EN b2 c2 d2 l2)) (On.at hs19 0 rfl) (by kernel_rfl)) (Jai (Jf (H := H18) (t := 3) (u := 3) (a := i2) (b := (l2.length : Int)) (by omega)) trivial)) (by kernel_rfl)) (by kernel_rfl) ?_
    refine Wp.condF (by kernel_rfl) ?_
    refine Wp.exit ?_
    refine Eq.mpr (if_pos rfl) ?_
    refine Wp.region [] [(2, yp n1), (3, yp n2), (5, xi 0), (6, xi 3)] H18
      (cast trivial (by kernel_rfl)) (by kernel_rfl) ?_
    refine ⟨[(2, yp n1), (3, yp n2), (5, xi 0), (6, xi 3)], H18, by kernel_rfl, ?_⟩
    refine WpL.step ?_
    refine Wp.seq ?_
    refine rS0 [(2, yp n1), (3, yp n2), (5, xi 0), (6, xi 3), (9, xb false)] (by kernel_rfl) (by kernel_rfl) ?_
    refine Wp.condF (by kernel_rfl) ?_
    refine Wp.exit ?_
    refine Eq.mpr (if_pos rfl) ?_
    refine rS0 [(4, xi 0)] (by kernel_rfl) (by kernel_rfl) ?_
    refine Wp.ret ?_
    refine ⟨Or.inr rfl, [.one (vi 0)], (by kernel_rfl), ?_⟩
    exact (by kernel_rfl)
end Go.Proofs.Ytoidoeappihplaa
