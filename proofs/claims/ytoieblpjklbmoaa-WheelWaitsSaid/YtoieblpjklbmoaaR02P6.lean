/-
  WheelWaits: for every slots and every class the law returns true, and the arguments read as before.
-/
import Derived.Test.YtoieblpjklbmoaaR02D
import Derived.Test.YtoieblpjklbmoaaX20
import Derived.Test.YtoieblpjklbmoaaRows
import Derived.WalkKit
import Derived.ProofKit
namespace Go.Proofs.Ytoieblpjklbmoaa
open Go.Lg
set_option maxRecDepth 100000
theorem own : ownKnob Try.prog.godebug = none := by kernel_rfl
theorem laidOut : laidOutB Try.prog = true := by kernel_rfl
theorem pok : POk Try.prog := pOk_of (by kernel_rfl)
theorem aok : AnnOk Try.prog an := annOk_of (by kernel_rfl)

theorem small {n : Nat} (h : n * 8 ≤ reachBytes) : (n : Int) ≤ 4611686018427387904 := by
  unfold reachBytes at h
  omega

abbrev S6 : Sh := .pr (.sl 8 NI) (.pr NI .nil)
theorem run6 (x : S6.T) (h : Val S6 x) : ∃ k H', runX Try.prog an k 6 (argsY Try.prog Try.f6.params.toList S6 x) [] = some ([.one (.sc (.bool true))], H') := by
  obtain ⟨⟨_, _, h0, _⟩, w, _⟩ := h
  exact law_of_pure (fn6 false x.1.1 x.1.1 x.1.2 (small h0) x.2.1)
theorem lifted6 (os : Os) (started : os.Started) (H : Type) (enc : TypeId × Value → H) :
    ReturnsInHanded {} Try.checked os 6 .any (Rows.wheelWaitsSpec.pre6 enc Try.prog Try.f6 Rows.wheelWaitsRow.domain false) (Rows.wheelWaitsSpec.post enc Try.prog Try.f6 false true false false) := by
  refine returnsInHanded_of_change_sized (C := Try.checked) own started (by kernel_rfl) Try.func6
    (ChangeSpec.witness6 (enc := enc) (C := Try.checked) false ⟨#[], #[.slice none 0 0, .int .i64 0], []⟩ 8 (by kernel_rfl) (by kernel_rfl) (by kernel_rfl) (by kernel_rfl)) ?_
  intro W base args ds gs before hval hW hc hw _
  exact law_contract laidOut pok aok (S := S6) (by kernel_rfl) (by kernel_rfl) ⟨4, by kernel_rfl, Try.underlying4⟩ rfl
    (fun ds hd => by match ds, hd with | [_, _], _ => rfl) run6 W base args ds gs before hval hW hc hw
theorem over6 : Rows.wheelWaitsRow.holds Try.pinned (OpenSpec.ofChange Rows.wheelWaitsSpec) :=
  OpenClaim.holds_of_wide 6 Try.f6 rfl rfl rfl rfl rfl rfl rfl ⟨rfl, rfl, rfl, rfl, rfl⟩ rfl rfl rfl rfl rfl (by kernel_rfl) Try.func6 (by kernel_rfl)
    (of_decide_eq_true (by kernel_rfl)) (by unfold Func.isWrapper; first | (rw [if_pos (by decide +kernel)]; kernel_rfl) | (rw [if_neg (by decide +kernel)]; exact ⟨rfl, rfl⟩))
    (fun os started H enc _ => lifted6 os started H enc)
theorem waits : Rows.WheelWaitsSaid := over6
#print axioms waits

end Go.Proofs.Ytoieblpjklbmoaa
