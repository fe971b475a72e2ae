/-
  StealPlans and StealIdle: for every queues and every room the law returns true, and the arguments read as before.
-/
import Derived.Test.YtoidoeappihplaaX20
import Derived.Test.YtoidoeappihplaaR19B
import Derived.Test.YtoidoeappihplaaR19C
import Derived.Test.YtoidoeappihplaaRows
import Derived.WalkKit
import Derived.ProofKit
namespace Go.Proofs.Ytoidoeappihplaa
open Go.Lg

theorem own : ownKnob Try.prog.godebug = none := by kernel_rfl
theorem laidOut : laidOutB Try.prog = true := by kernel_rfl
theorem pok : POk Try.prog := pOk_of (by kernel_rfl)
theorem aok : AnnOk Try.prog an := annOk_of (by kernel_rfl)

abbrev Q3 : Sh := .pr (.sl 24 EN) (.pr (.sl 24 EN) (.pr (.sl 24 EN) .nil))
abbrev R3 : Sh := .pr (.int .i64) (.pr (.int .i64) (.pr (.int .i64) .nil))
abbrev S1 : Sh := .pr Q3 (.pr R3 .nil)

theorem small {n : Nat} (h : n * 24 ≤ reachBytes) : (n : Int) ≤ 4611686018427387904 := by
  unfold reachBytes at h
  omega

theorem run3 (x : S1.T) (h : Val S1 x) : ∃ k H', runX Try.prog an k 3 (argsY Try.prog Try.f3.params.toList S1 x) [] = some ([.one (.sc (.bool true))], H') := by
  obtain ⟨⟨⟨_, _, h0, _⟩, ⟨_, _, h1, _⟩, ⟨_, _, h2, _⟩, _⟩, ⟨w0, w1, w2, _⟩, _⟩ := h
  have g0 := wf64 w0
  have g1 := wf64 w1
  have g2 := wf64 w2
  exact law_of_pure (fn3 x.1.1 x.1.2.1 x.1.2.2.1 x.2.1.1 x.2.1.2.1 x.2.1.2.2.1 (small h0) (small h1) (small h2) ⟨g0.1, g0.2, g1.1, g1.2, g2.1, g2.2⟩)
theorem run4 (x : S1.T) (h : Val S1 x) : ∃ k H', runX Try.prog an k 4 (argsY Try.prog Try.f4.params.toList S1 x) [] = some ([.one (.sc (.bool true))], H') := by
  obtain ⟨⟨⟨_, _, h0, _⟩, ⟨_, _, h1, _⟩, ⟨_, _, h2, _⟩, _⟩, ⟨w0, w1, w2, _⟩, _⟩ := h
  have g0 := wf64 w0
  have g1 := wf64 w1
  have g2 := wf64 w2
  exact law_of_pure (fn4 x.1.1 x.1.2.1 x.1.2.2.1 x.2.1.1 x.2.1.2.1 x.2.1.2.2.1 (small h0) (small h1) (small h2) ⟨g0.1, g0.2, g1.1, g1.2, g2.1, g2.2⟩)

set_option maxRecDepth 100000 in
theorem lifted3 (os : Os) (started : os.Started) (H : Type) (enc : TypeId × Value → H) :
    ReturnsInHanded {} Try.checked os 3 .any (Rows.stealPlansSpec.pre6 enc Try.prog Try.f3 Rows.stealPlansRow.domain false) (Rows.stealPlansSpec.post enc Try.prog Try.f3 false true false false) := by
  refine returnsInHanded_of_change_sized (C := Try.checked) own started (by kernel_rfl) Try.func3
    (ChangeSpec.witness6 (enc := enc) (C := Try.checked) false ⟨#[], #[.agg #[.slice none 0 0, .slice none 0 0, .slice none 0 0], .agg #[.int .i64 0, .int .i64 0, .int .i64 0]], []⟩ 8 (by kernel_rfl) (by kernel_rfl) (by kernel_rfl) (by kernel_rfl)) ?_
  intro W base args ds gs before hval hW hc hw _
  exact law_contract laidOut pok aok (S := S1) (by kernel_rfl) (by kernel_rfl) ⟨4, by kernel_rfl, Try.underlying4⟩ rfl
    (fun ds hd => by match ds, hd with | [_, _], _ => rfl) run3 W base args ds gs before hval hW hc hw

theorem over3 : Rows.stealPlansRow.holds Try.pinned (OpenSpec.ofChange Rows.stealPlansSpec) :=
  OpenClaim.holds_of_wide 3 Try.f3 rfl rfl rfl rfl rfl rfl rfl ⟨rfl, rfl, rfl, rfl, rfl⟩ rfl rfl rfl rfl rfl (by kernel_rfl) Try.func3 (by kernel_rfl)
    (of_decide_eq_true (by kernel_rfl)) (by unfold Func.isWrapper; first | (rw [if_pos (by decide +kernel)]; kernel_rfl) | (rw [if_neg (by decide +kernel)]; exact ⟨rfl, rfl⟩))
    (fun os started H enc _ => lifted3 os started H enc)
theorem plans : Rows.StealPlansSaid := over3

set_option maxRecDepth 100000 in
theorem lifted4 (os : Os) (started : os.Started) (H : Type) (enc : TypeId × Value → H) :
    ReturnsInHanded {} Try.checked os 4 .any (Rows.stealIdleSpec.pre6 enc Try.prog Try.f4 Rows.stealIdleRow.domain false) (Rows.stealIdleSpec.post enc Try.prog Try.f4 false true false false) := by
  refine returnsInHanded_of_change_sized (C := Try.checked) own started (by kernel_rfl) Try.func4
    (ChangeSpec.witness6 (enc := enc) (C := Try.checked) false ⟨#[], #[.agg #[.slice none 0 0, .slice none 0 0, .slice none 0 0], .agg #[.int .i64 0, .int .i64 0, .int .i64 0]], []⟩ 8 (by kernel_rfl) (by kernel_rfl) (by kernel_rfl) (by kernel_rfl)) ?_
  intro W base args ds gs before hval hW hc hw _
  exact law_contract laidOut pok aok (S := S1) (by kernel_rfl) (by kernel_rfl) ⟨4, by kernel_rfl, Try.underlying4⟩ rfl
    (fun ds hd => by match ds, hd with | [_, _], _ => rfl) run4 W base args ds gs before hval hW hc hw

theorem over4 : Rows.stealIdleRow.holds Try.pinned (OpenSpec.ofChange Rows.stealIdleSpec) :=
  OpenClaim.holds_of_wide 4 Try.f4 rfl rfl rfl rfl rfl rfl rfl ⟨rfl, rfl, rfl, rfl, rfl⟩ rfl rfl rfl rfl rfl (by kernel_rfl) Try.func4 (by kernel_rfl)
    (of_decide_eq_true (by kernel_rfl)) (by unfold Func.isWrapper; first | (rw [if_pos (by decide +kernel)]; kernel_rfl) | (rw [if_neg (by decide +kernel)]; exact ⟨rfl, rfl⟩))
    (fun os started H enc _ => lifted4 os started H enc)
theorem idle : Rows.StealIdleSaid := over4
#print axioms plans
#print axioms idle
end Go.Proofs.Ytoidoeappihplaa
