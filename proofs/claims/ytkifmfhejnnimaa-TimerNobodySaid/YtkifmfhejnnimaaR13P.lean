/-
  TimerNobody: for every number and every pid the law returns true, and the arguments read as before.
-/
import Derived.Test.YtkifmfhejnnimaaR13D
import Derived.Test.YtkifmfhejnnimaaX20
import Derived.Test.YtkifmfhejnnimaaRows
import Derived.WalkKit
import Derived.ProofKit
namespace Go.Proofs.Ytkifmfhejnnimaa
open Go.Lg
set_option maxRecDepth 100000
abbrev NI : Sh := .int .i64
abbrev PI : Sh := .pr NI (.pr NI .nil)
theorem own : ownKnob Try.prog.godebug = none := by kernel_rfl
theorem laidOut : laidOutB Try.prog = true := by kernel_rfl
theorem pok : POk Try.prog := pOk_of (by kernel_rfl)
theorem aok : AnnOk Try.prog an := annOk_of (by kernel_rfl)


abbrev S3 : Sh := .pr NI (.pr PI .nil)
theorem run3 (x : S3.T) (h : Val S3 x) : ∃ k H', runX Try.prog an k 3 (argsY Try.prog Try.f3.params.toList S3 x) [] = some ([.one (.sc (.bool true))], H') := by
  exact law_of_pure (fn3 x.1 x.2.1.1 x.2.1.2.1)
theorem lifted3 (os : Os) (started : os.Started) (H : Type) (enc : TypeId × Value → H) :
    ReturnsInHanded {} Try.checked os 3 .any (Rows.timerNobodySpec.pre6 enc Try.prog Try.f3 Rows.timerNobodyRow.domain false) (Rows.timerNobodySpec.post enc Try.prog Try.f3 false true false false) := by
  refine returnsInHanded_of_change_sized (C := Try.checked) own started (by kernel_rfl) Try.func3
    (ChangeSpec.witness6 (enc := enc) (C := Try.checked) false ⟨#[], #[.int .i64 0, .agg #[.int .i64 0, .int .i64 0]], []⟩ 8 (by kernel_rfl) (by kernel_rfl) (by kernel_rfl) (by kernel_rfl)) ?_
  intro W base args ds gs before hval hW hc hw _
  exact law_contract laidOut pok aok (S := S3) (by kernel_rfl) (by kernel_rfl) ⟨4, by kernel_rfl, Try.underlying4⟩ rfl
    (fun ds hd => by match ds, hd with | [_, _], _ => rfl) run3 W base args ds gs before hval hW hc hw
theorem over3 : Rows.timerNobodyRow.holds Try.pinned (OpenSpec.ofChange Rows.timerNobodySpec) :=
  OpenClaim.holds_of_wide 3 Try.f3 rfl rfl rfl rfl rfl rfl rfl ⟨rfl, rfl, rfl, rfl, rfl⟩ rfl rfl rfl rfl rfl (by kernel_rfl) Try.func3 (by kernel_rfl)
    (of_decide_eq_true (by kernel_rfl)) (by unfold Func.isWrapper; first | (rw [if_pos (by decide +kernel)]; kernel_rfl) | (rw [if_neg (by decide +kernel)]; exact ⟨rfl, rfl⟩))
    (fun os started H enc _ => lifted3 os started H enc)
theorem nobody : Rows.TimerNobodySaid := over3
#print axioms nobody

end Go.Proofs.Ytkifmfhejnnimaa
