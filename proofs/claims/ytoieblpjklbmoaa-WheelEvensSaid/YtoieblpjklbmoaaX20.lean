/-
 X, part 20: from a contract to what a row asks.
-/
import Derived.Test.YtoieblpjklbmoaaX17
import Derived.Test.YtoieblpjklbmoaaX19
namespace Go.Lg
section
variable {P : Program} {A : Ann}
theorem back_sc {H : Heap} {rs : List Y} {v : Value} (h : rs.mapM (backY H) = some [.one (.sc v)]) : rs = [.one (.sc v)] := by
 match rs, h with
 | [], h => simp at h
 | [r], h =>
  simp only [List.mapM_cons, List.mapM_nil, Option.bind_eq_bind, Option.pure_def, kS, kB, kI, List.cons.injEq, and_true] at h
  obtain ⟨y, hy, rfl⟩ := h
  cases r with
  | one c =>
   simp only [backY, kM] at hy
   obtain ⟨c', hc, he⟩ := hy
   cases he
   cases c with
   | sc u => simp only [backC, kI] at hc; rw [hc]
   | sl b nil capd cs n => cases b <;> simp [backC] at hc
   | row id st off len capd =>
    simp only [backC] at hc
    split at hc
    ·split at hc <;> cases hc
    ·cases hc
   | _ => simp [backC] at hc
  | agg cs =>
   simp only [backY, kM] at hy
   obtain ⟨c', hc, he⟩ := hy
   cases he
 | r :: r' :: rs, h =>
  exfalso
  simp only [List.mapM_cons, Option.bind_eq_bind, Option.pure_def, kB, kI] at h
  obtain ⟨a, _, l, ⟨b, _, l', _, rfl⟩, he⟩ := h
  cases he
theorem law_of_pure {f : FuncId} {args : List Y} {v : Value} (h : PureC P A f args [.one (.sc v)]) : ∃ k H', runX P A k f args [] = some ([.one (.sc v)], H') := by
 obtain ⟨rs, H', ⟨k, hk⟩, hb⟩ := h
 rw [back_sc hb] at hk
 exact ⟨k, H', hk⟩
end
end Go.Lg
