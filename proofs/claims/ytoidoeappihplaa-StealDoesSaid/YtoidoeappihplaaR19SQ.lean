/- Lemmas. -/
import Derived.Test.YtoidoeappihplaaR19SP
namespace Go.Proofs.Ytoidoeappihplaa
open Go.Lg
set_option linter.unusedVariables false
set_option maxRecDepth 100000
set_option maxHeartbeats 8000000
set_option linter.unusedSimpArgs false
def Fine (S : List Int) (hand : Int) (l0 l1 l2 : List EN.T) : Prop := okW S = true ∧ (0 ≤ hand ∧ hand < (S.length : Int)) ∧ LoadOk l0 l1 l2 ∧ ((l0.length : Int) ≤ 64 ∧ (l1.length : Int) ≤ 64 ∧ (l2.length : Int) ≤ 64)
theorem load_two (R : HP) (H : HH) (b nn9 cp : Bool) (S : List Int) (hand : Int) (aa0 nn0 pp0 aa1 nn1 pp1 aa2 nn2 pp2 : Bool) (l0 l1 l2 : List EN.T) (hzl0 : (l0.length : Int) ≤ 5864062014805) (hzl1 : (l1.length : Int) ≤ 5864062014805) (hzl2 : (l2.length : Int) ≤ 5864062014805) (hs : On [R] H) (hsl : (S.length : Int) ≤ 4611686018427387904) (hnn : okW S = true → nn9 = false) :
    ∃ rs H', Runs pg an 23 [.one (sv NI b nn9 cp S), .one (vi hand), .agg [sv EN aa0 nn0 pp0 l0, sv EN aa1 nn1 pp1 l1, sv EN aa2 nn2 pp2 l2]] H rs H' ∧
      ((Fine S hand l0 l1 l2 ∧ ∃ c ks q0 q1 q2, rs = [.one (.ptr c 0), .one (vi 0)] ∧ On [R, pts c (.obj [rff ks S, vi hand, .ptr q0 0, .ptr q1 0, .ptr q2 0]), pts ks (rowO NI true 0 S), ringP EN q0 64 l0, ringP EN q1 64 l1, ringP EN q2 64 l2] H') ∨ (¬ Fine S hand l0 l1 l2 ∧ ∃ e, 1 ≤ e ∧ rs = [.one (.sc (.pointer none)), .one (vi e)] ∧ On [R] H')) := by
  obtain ⟨rs, H', h1, ⟨a, e, h⟩ | ⟨a, d, e, h⟩ | ⟨a, d, f, e, h⟩ | ⟨a, d, f, g, e, h⟩ | ⟨a, d, f, g, c, ks, q0, q1, q2, e, h⟩⟩ := load_s R H b nn9 cp S hand aa0 nn0 pp0 aa1 nn1 pp1 aa2 nn2 pp2 l0 l1 l2 (by omega) (by omega) (by omega) hs hsl hnn
  · exact ⟨rs, H', h1, .inr ⟨fun w => (by have := w.1; rw [a] at this; cases this), 20, by decide, e, h⟩⟩
  · exact ⟨rs, H', h1, .inr ⟨fun w => d w.2.2.1, 1, by decide, e, h⟩⟩
  · exact ⟨rs, H', h1, .inr ⟨fun w => by have := w.2.1; omega, 1, by decide, e, h⟩⟩
  · exact ⟨rs, H', h1, .inr ⟨fun w => by have := w.2.2.2; omega, 2, by decide, e, h⟩⟩
  · exact ⟨rs, H', h1, .inl ⟨⟨a, f, d, g⟩, c, ks, q0, q1, q2, e, h⟩⟩
theorem rload_fine (b nil cp0 : Bool) (S : List Int) (hsl : (S.length : Int) ≤ 4611686018427387904) (hand : Int) (aa0 nn0 pp0 aa1 nn1 pp1 aa2 nn2 pp2 : Bool) (l0 l1 l2 : List EN.T) (hzl0 : (l0.length : Int) ≤ 5864062014805) (hzl1 : (l1.length : Int) ≤ 5864062014805) (hzl2 : (l2.length : Int) ≤ 5864062014805) (hf : Fine S hand l0 l1 l2) : ∃ nl cp fy0 fz0 fy1 fz1 fy2 fz2 : Bool, PureC pg an 24 [.one (sv NI b nil cp0 S), .one (vi hand), .agg [sv EN aa0 nn0 pp0 l0, sv EN aa1 nn1 pp1 l1, sv EN aa2 nn2 pp2 l2]] [.agg [sv NI false nl cp S, vi hand, sv EN false fy0 fz0 l0, sv EN false fy1 fz1 l1, sv EN false fy2 fz2 l2], .one (vi 0)] := by
  obtain ⟨f1, f2, f3, f4⟩ := hf
  rcases rload b nil cp0 S hsl hand aa0 nn0 pp0 aa1 nn1 pp1 aa2 nn2 pp2 l0 l1 l2 hzl0 hzl1 hzl2 with ⟨a, h⟩ | ⟨a, c, h⟩ | ⟨a, c, d, h⟩ | ⟨a, c, d, e, h⟩ | ⟨a, c, d, e, g, i, h⟩
  · rw [f1] at a; cases a
  · exfalso; omega
  · exact absurd f3 d
  · exfalso; omega
  · exact h
theorem rload_not (b nil cp0 : Bool) (S : List Int) (hsl : (S.length : Int) ≤ 4611686018427387904) (hand : Int) (aa0 nn0 pp0 aa1 nn1 pp1 aa2 nn2 pp2 : Bool) (l0 l1 l2 : List EN.T) (hzl0 : (l0.length : Int) ≤ 5864062014805) (hzl1 : (l1.length : Int) ≤ 5864062014805) (hzl2 : (l2.length : Int) ≤ 5864062014805) (hf : ¬ Fine S hand l0 l1 l2) : ∃ e : Int, 1 ≤ e ∧ PureC pg an 24 [.one (sv NI b nil cp0 S), .one (vi hand), .agg [sv EN aa0 nn0 pp0 l0, sv EN aa1 nn1 pp1 l1, sv EN aa2 nn2 pp2 l2]] [.agg [nilC, vi 0, nilC, nilC, nilC], .one (vi e)] := by
  rcases rload b nil cp0 S hsl hand aa0 nn0 pp0 aa1 nn1 pp1 aa2 nn2 pp2 l0 l1 l2 hzl0 hzl1 hzl2 with ⟨a, h⟩ | ⟨a, c, h⟩ | ⟨a, c, d, h⟩ | ⟨a, c, d, e, h⟩ | ⟨a, c, d, e, g, i, h⟩
  · exact ⟨20, by decide, h⟩
  · exact ⟨1, by decide, h⟩
  · exact ⟨1, by decide, h⟩
  · exact ⟨2, by decide, h⟩
  · exact absurd ⟨a, c, d, e, g, i⟩ hf
def Hs (z cls n r : Int) (t v T V : List EN.T) : Prop := (cls = z ∧ n ≤ half v ∧ n ≤ r ∧ n ≤ (v.length : Int) ∧ V = v.take ((v.length : Int) - n).toNat ∧ T = t ++ pin (v.drop ((v.length : Int) - n).toNat)) ∨ (cls ≠ z ∧ V = v ∧ T = t)
end Go.Proofs.Ytoidoeappihplaa
