/-
  Core: what is kept; the law of any queues. (Printed by sx/r18.py.)
-/
import Derived.Test.YtjdnhbnpdbpgbaaR18N
namespace Go.Proofs.Ytjdnhbnpdbpgbaa
open Go.Lg
set_option linter.unusedVariables false
set_option maxRecDepth 100000
set_option maxHeartbeats 8000000
set_option linter.unusedSimpArgs false
theorem rload_0 (b nil cp0 : Bool) (S : List Int) (hsl : (S.length : Int) ≤ 4611686018427387904) (hand : Int) (aa0 nn0 pp0 aa1 nn1 pp1 aa2 nn2 pp2 : Bool) (l0 l1 l2 : List EN.T) (hzl0 : (l0.length : Int) ≤ 5864062014805) (hzl1 : (l1.length : Int) ≤ 5864062014805) (hzl2 : (l2.length : Int) ≤ 5864062014805) (ho : okW S = false) : PureC pg an 9 [.one (sv NI b nil cp0 S), .one (vi hand), .agg [sv EN aa0 nn0 pp0 l0, sv EN aa1 nn1 pp1 l1, sv EN aa2 nn2 pp2 l2]] [.agg [.sl false true true [] 0, vi 0, .sl false true true [] 0, .sl false true true [] 0, .sl false true true [] 0], .one (vi 20)] := by
  rcases rload b nil cp0 S hsl hand aa0 nn0 pp0 aa1 nn1 pp1 aa2 nn2 pp2 l0 l1 l2 hzl0 hzl1 hzl2 with ⟨a, h⟩ | ⟨a, c, h⟩ | ⟨a, c, d, h⟩ | ⟨a, c, d, e, h⟩ | ⟨a, c, d, e, g, i, h⟩
  · exact h
  all_goals (rw [ho] at a; exact absurd a (by simp))
theorem rload_1 (b nil cp0 : Bool) (S : List Int) (hsl : (S.length : Int) ≤ 4611686018427387904) (hand : Int) (aa0 nn0 pp0 aa1 nn1 pp1 aa2 nn2 pp2 : Bool) (l0 l1 l2 : List EN.T) (hzl0 : (l0.length : Int) ≤ 5864062014805) (hzl1 : (l1.length : Int) ≤ 5864062014805) (hzl2 : (l2.length : Int) ≤ 5864062014805) (ho : okW S = true) (hb : LoadBad l0 l1 l2 ∨ hand < 0 ∨ (S.length : Int) ≤ hand) : PureC pg an 9 [.one (sv NI b nil cp0 S), .one (vi hand), .agg [sv EN aa0 nn0 pp0 l0, sv EN aa1 nn1 pp1 l1, sv EN aa2 nn2 pp2 l2]] [.agg [.sl false true true [] 0, vi 0, .sl false true true [] 0, .sl false true true [] 0, .sl false true true [] 0], .one (vi 1)] := by
  rcases rload b nil cp0 S hsl hand aa0 nn0 pp0 aa1 nn1 pp1 aa2 nn2 pp2 l0 l1 l2 hzl0 hzl1 hzl2 with ⟨a, h⟩ | ⟨a, c, h⟩ | ⟨a, c, d, h⟩ | ⟨a, c, d, e, h⟩ | ⟨a, c, d, e, g, i, h⟩
  · rw [ho] at a; cases a
  · exact h
  · exact h
  all_goals (exfalso; rcases hb with hb | hb <;> first | exact hb d | omega)
theorem rload_2 (b nil cp0 : Bool) (S : List Int) (hsl : (S.length : Int) ≤ 4611686018427387904) (hand : Int) (aa0 nn0 pp0 aa1 nn1 pp1 aa2 nn2 pp2 : Bool) (l0 l1 l2 : List EN.T) (hzl0 : (l0.length : Int) ≤ 5864062014805) (hzl1 : (l1.length : Int) ≤ 5864062014805) (hzl2 : (l2.length : Int) ≤ 5864062014805) (ho : okW S = true) (hk : LoadOk l0 l1 l2) (hh : 0 ≤ hand ∧ hand < (S.length : Int)) (hb : 64 < (l0.length : Int) ∨ 64 < (l1.length : Int) ∨ 64 < (l2.length : Int)) : PureC pg an 9 [.one (sv NI b nil cp0 S), .one (vi hand), .agg [sv EN aa0 nn0 pp0 l0, sv EN aa1 nn1 pp1 l1, sv EN aa2 nn2 pp2 l2]] [.agg [.sl false true true [] 0, vi 0, .sl false true true [] 0, .sl false true true [] 0, .sl false true true [] 0], .one (vi 2)] := by
  rcases rload b nil cp0 S hsl hand aa0 nn0 pp0 aa1 nn1 pp1 aa2 nn2 pp2 l0 l1 l2 hzl0 hzl1 hzl2 with ⟨a, h⟩ | ⟨a, c, h⟩ | ⟨a, c, d, h⟩ | ⟨a, c, d, e, h⟩ | ⟨a, c, d, e, g, i, h⟩
  · rw [ho] at a; cases a
  · exfalso; omega
  · exact absurd hk d
  · exact h
  · exfalso; omega
end Go.Proofs.Ytjdnhbnpdbpgbaa
