/-
  WheelNexts: for every slots, hand and who waits the law returns true, and the arguments read as before.
-/
import Derived.Test.YtoieblpjklbmoaaR02I
import Derived.Test.YtoieblpjklbmoaaX20
import Derived.Test.YtoieblpjklbmoaaRows
import Derived.WalkKit
import Derived.ProofKit
namespace Go.Proofs.Ytoieblpjklbmoaa
open Go.Lg
set_option maxRecDepth 100000
theorem own : ownKnob Try.prog.godebug = none := by kernel_rfl
theorem laidOut : laidOutB Try.prog = true := by kernel_rfl
theorem pok : POk Try.prog := pOk_of (by kernel_rfl)
theorem aok : AnnOk Try.prog an := annOk_of (by kernel_rfl)

theorem small {n : Nat} (h : n * 8 ≤ reachBytes) : (n : Int) ≤ 17592186043904 := by
  unfold reachBytes at h
  omega
abbrev B3 : Sh := .pr .bool (.pr .bool (.pr .bool .nil))

abbrev S3 : Sh := .pr (.sl 8 NI) (.pr NI (.pr B3 .nil))
theorem run3 (x : S3.T) (h : Val S3 x) : ∃ k H', runX Try.prog an k 3 (argsY Try.prog Try.f3.params.toList S3 x) [] = some ([.one (.sc (.bool true))], H') := by
  obtain ⟨⟨_, _, h0, _⟩, _⟩ := h
  exact law_of_pure (fn3 false x.1.1 x.1.1 x.1.2 (small h0) x.2.1 x.2.2.1.1 x.2.2.1.2.1 x.2.2.1.2.2.1)
theorem lifted3 (os : Os) (started : os.Started) (H : Type) (enc : TypeId × Value → H) :
    ReturnsInHanded {} Try.checked os 3 .any (Rows.wheelNextsSpec.pre6 enc Try.prog Try.f3 Rows.wheelNextsRow.domain false) (Rows.wheelNextsSpec.post enc Try.prog Try.f3 false true false false) := by
  refine returnsInHanded_of_change_sized (C := Try.checked) own started (by kernel_rfl) Try.func3
    (ChangeSpec.witness6 (enc := enc) (C := Try.checked) false ⟨#[], #[.slice none 0 0, .int .i64 0, .agg #[.bool false, .bool false, .bool false]], []⟩ 8 (by kernel_rfl) (by kernel_rfl) (by kernel_rfl) (by kernel_rfl)) ?_
  intro W base args ds gs before hval hW hc hw _
  exact law_contract laidOut pok aok (S := S3) (by kernel_rfl) (by kernel_rfl) ⟨4, by kernel_rfl, Try.underlying4⟩ rfl
    (fun ds hd => by match ds, hd with | [_, _, _], _ => rfl) run3 W base args ds gs before hval hW hc hw
theorem over3 : Rows.wheelNextsRow.holds Try.pinned (OpenSpec.ofChange Rows.wheelNextsSpec) :=
  OpenClaim.holds_of_wide 3 Try.f3 rfl rfl rfl rfl rfl rfl rfl ⟨rfl, rfl, rfl, rfl, rfl⟩ rfl rfl rfl rfl rfl (by kernel_rfl) Try.func3 (by kernel_rfl)
    (of_decide_eq_true (by kernel_rfl)) (by unfold Func.isWrapper; first | (rw [if_pos (by decide +kernel)]; kernel_rfl) | (rw [if_neg (by decide +kernel)]; exact ⟨rfl, rfl⟩))
    (fun os started H enc _ => lifted3 os started H enc)
theorem nexts : Rows.WheelNextsSaid := over3
#print axioms nexts

end Go.Proofs.Ytoieblpjklbmoaa
