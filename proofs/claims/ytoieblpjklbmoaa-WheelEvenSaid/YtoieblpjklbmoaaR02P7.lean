/-
  WheelEven: for every three weights the law returns true, and the arguments read as before.
-/
import Derived.Test.YtoieblpjklbmoaaR02M
import Derived.Test.YtoieblpjklbmoaaX20
import Derived.Test.YtoieblpjklbmoaaRows
import Derived.WalkKit
import Derived.ProofKit
namespace Go.Proofs.Ytoieblpjklbmoaa
open Go.Lg
set_option maxRecDepth 100000
theorem own : ownKnob Try.prog.godebug = none := by kernel_rfl
theorem laidOut : laidOutB Try.prog = true := by kernel_rfl
theorem pok : POk Try.prog := pOk_of (by kernel_rfl)
theorem aok : AnnOk Try.prog an := annOk_of (by kernel_rfl)

abbrev N3 : Sh := .pr NI (.pr NI (.pr NI .nil))

abbrev S7 : Sh := .pr N3 .nil
theorem run7 (x : S7.T) (h : Val S7 x) : ∃ k H', runX Try.prog an k 7 (argsY Try.prog Try.f7.params.toList S7 x) [] = some ([.one (.sc (.bool true))], H') := by
  exact law_of_pure (fn7 x.1.1 x.1.2.1 x.1.2.2.1)
theorem lifted7 (os : Os) (started : os.Started) (H : Type) (enc : TypeId × Value → H) :
    ReturnsInHanded {} Try.checked os 7 .any (Rows.wheelEvenSpec.pre6 enc Try.prog Try.f7 Rows.wheelEvenRow.domain false) (Rows.wheelEvenSpec.post enc Try.prog Try.f7 false true false false) := by
  refine returnsInHanded_of_change_sized (C := Try.checked) own started (by kernel_rfl) Try.func7
    (ChangeSpec.witness6 (enc := enc) (C := Try.checked) false ⟨#[], #[.agg #[.int .i64 0, .int .i64 0, .int .i64 0]], []⟩ 8 (by kernel_rfl) (by kernel_rfl) (by kernel_rfl) (by kernel_rfl)) ?_
  intro W base args ds gs before hval hW hc hw _
  exact law_contract laidOut pok aok (S := S7) (by kernel_rfl) (by kernel_rfl) ⟨4, by kernel_rfl, Try.underlying4⟩ rfl
    (fun ds hd => by match ds, hd with | [_], _ => rfl) run7 W base args ds gs before hval hW hc hw
theorem over7 : Rows.wheelEvenRow.holds Try.pinned (OpenSpec.ofChange Rows.wheelEvenSpec) :=
  OpenClaim.holds_of_wide 7 Try.f7 rfl rfl rfl rfl rfl rfl rfl ⟨rfl, rfl, rfl, rfl, rfl⟩ rfl rfl rfl rfl rfl (by kernel_rfl) Try.func7 (by kernel_rfl)
    (of_decide_eq_true (by kernel_rfl)) (by unfold Func.isWrapper; first | (rw [if_pos (by decide +kernel)]; kernel_rfl) | (rw [if_neg (by decide +kernel)]; exact ⟨rfl, rfl⟩))
    (fun os started H enc _ => lifted7 os started H enc)
theorem even : Rows.WheelEvenSaid := over7
#print axioms even

end Go.Proofs.Ytoieblpjklbmoaa
