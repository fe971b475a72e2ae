/-
  CodeCosts: for every two numbers the law returns true, and the arguments read as before.
-/
import Derived.Test.YtgbhmenlbhmafaaR06D
import Derived.Test.YtgbhmenlbhmafaaX20
import Derived.Test.YtgbhmenlbhmafaaRows
import Derived.WalkKit
import Derived.ProofKit
namespace Go.Proofs.Ytgbhmenlbhmafaa
open Go.Lg
set_option maxRecDepth 100000
theorem own : ownKnob Try.prog.godebug = none := by kernel_rfl
theorem laidOut : laidOutB Try.prog = true := by kernel_rfl
theorem pok : POk Try.prog := pOk_of (by kernel_rfl)
theorem aok : AnnOk Try.prog an := annOk_of (by kernel_rfl)


abbrev S3 : Sh := .pr NI (.pr NI .nil)
theorem run3 (x : S3.T) (h : Val S3 x) : ∃ k H', runX Try.prog an k 3 (argsY Try.prog Try.f3.params.toList S3 x) [] = some ([.one (.sc (.bool true))], H') := by
  exact law_of_pure (fn3 x.1 x.2.1)
theorem lifted3 (os : Os) (started : os.Started) (H : Type) (enc : TypeId × Value → H) :
    ReturnsInHanded {} Try.checked os 3 .any (Rows.codeCostsSpec.pre6 enc Try.prog Try.f3 Rows.codeCostsRow.domain false) (Rows.codeCostsSpec.post enc Try.prog Try.f3 false true false false) := by
  refine returnsInHanded_of_change_sized (C := Try.checked) own started (by kernel_rfl) Try.func3
    (ChangeSpec.witness6 (enc := enc) (C := Try.checked) false ⟨#[], #[.int .i64 0, .int .i64 0], []⟩ 8 (by kernel_rfl) (by kernel_rfl) (by kernel_rfl) (by kernel_rfl)) ?_
  intro W base args ds gs before hval hW hc hw _
  exact law_contract laidOut pok aok (S := S3) (by kernel_rfl) (by kernel_rfl) ⟨4, by kernel_rfl, Try.underlying4⟩ rfl
    (fun ds hd => by match ds, hd with | [_, _], _ => rfl) run3 W base args ds gs before hval hW hc hw
theorem over3 : Rows.codeCostsRow.holds Try.pinned (OpenSpec.ofChange Rows.codeCostsSpec) :=
  OpenClaim.holds_of_wide 3 Try.f3 rfl rfl rfl rfl rfl rfl rfl ⟨rfl, rfl, rfl, rfl, rfl⟩ rfl rfl rfl rfl rfl (by kernel_rfl) Try.func3 (by kernel_rfl)
    (of_decide_eq_true (by kernel_rfl)) (by unfold Func.isWrapper; first | (rw [if_pos (by decide +kernel)]; kernel_rfl) | (rw [if_neg (by decide +kernel)]; exact ⟨rfl, rfl⟩))
    (fun os started H enc _ => lifted3 os started H enc)
theorem costs : Rows.CodeCostsSaid := over3
#print axioms costs

end Go.Proofs.Ytgbhmenlbhmafaa
