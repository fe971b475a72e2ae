/-
  WheelAdds: for every slots, hand and two counts of turns the law returns true, and the arguments read as before.
-/
import Derived.Test.YtoieblpjklbmoaaR02G
import Derived.Test.YtoieblpjklbmoaaX20
import Derived.Test.YtoieblpjklbmoaaRows
import Derived.WalkKit
import Derived.ProofKit
namespace Go.Proofs.Ytoieblpjklbmoaa
open Go.Lg
set_option maxRecDepth 100000
theorem own : ownKnob Try.prog.godebug = none := by kernel_rfl
theorem laidOut : laidOutB Try.prog = true := by kernel_rfl
theorem pok : POk Try.prog := pOk_of (by kernel_rfl)
theorem aok : AnnOk Try.prog an := annOk_of (by kernel_rfl)

theorem small {n : Nat} (h : n * 8 ≤ reachBytes) : (n : Int) ≤ 4611686018427387904 := by
  unfold reachBytes at h
  omega

abbrev S9 : Sh := .pr (.sl 8 NI) (.pr NI (.pr NI (.pr NI .nil)))
theorem run9 (x : S9.T) (h : Val S9 x) : ∃ k H', runX Try.prog an k 9 (argsY Try.prog Try.f9.params.toList S9 x) [] = some ([.one (.sc (.bool true))], H') := by
  obtain ⟨⟨_, _, h0, _⟩, w0, w1, w2, _⟩ := h
  have g0 := wf64 w0
  have g1 := wf64 w1
  have g2 := wf64 w2
  exact law_of_pure (fn9 false x.1.1 x.1.1 x.1.2 (small h0) x.2.1 x.2.2.1 x.2.2.2.1 ⟨g0.1, g0.2, g1.1, g1.2, g2.1, g2.2⟩)
theorem lifted9 (os : Os) (started : os.Started) (H : Type) (enc : TypeId × Value → H) :
    ReturnsInHanded {} Try.checked os 9 .any (Rows.wheelAddsSpec.pre6 enc Try.prog Try.f9 Rows.wheelAddsRow.domain false) (Rows.wheelAddsSpec.post enc Try.prog Try.f9 false true false false) := by
  refine returnsInHanded_of_change_sized (C := Try.checked) own started (by kernel_rfl) Try.func9
    (ChangeSpec.witness6 (enc := enc) (C := Try.checked) false ⟨#[], #[.slice none 0 0, .int .i64 0, .int .i64 0, .int .i64 0], []⟩ 8 (by kernel_rfl) (by kernel_rfl) (by kernel_rfl) (by kernel_rfl)) ?_
  intro W base args ds gs before hval hW hc hw _
  exact law_contract laidOut pok aok (S := S9) (by kernel_rfl) (by kernel_rfl) ⟨4, by kernel_rfl, Try.underlying4⟩ rfl
    (fun ds hd => by match ds, hd with | [_, _, _, _], _ => rfl) run9 W base args ds gs before hval hW hc hw
theorem over9 : Rows.wheelAddsRow.holds Try.pinned (OpenSpec.ofChange Rows.wheelAddsSpec) :=
  OpenClaim.holds_of_wide 9 Try.f9 rfl rfl rfl rfl rfl rfl rfl ⟨rfl, rfl, rfl, rfl, rfl⟩ rfl rfl rfl rfl rfl (by kernel_rfl) Try.func9 (by kernel_rfl)
    (of_decide_eq_true (by kernel_rfl)) (by unfold Func.isWrapper; first | (rw [if_pos (by decide +kernel)]; kernel_rfl) | (rw [if_neg (by decide +kernel)]; exact ⟨rfl, rfl⟩))
    (fun os started H enc _ => lifted9 os started H enc)
theorem adds : Rows.WheelAddsSaid := over9
#print axioms adds

end Go.Proofs.Ytoieblpjklbmoaa
