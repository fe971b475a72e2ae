/-
  WheelGaps: for every slots, class, hand and count of turns the law returns true, and the arguments read as before.
-/
import Derived.Test.YtoieblpjklbmoaaR02J
import Derived.Test.YtoieblpjklbmoaaX20
import Derived.Test.YtoieblpjklbmoaaRows
import Derived.WalkKit
import Derived.ProofKit
namespace Go.Proofs.Ytoieblpjklbmoaa
open Go.Lg
set_option maxRecDepth 100000
theorem own : ownKnob Try.prog.godebug = none := by kernel_rfl
theorem laidOut : laidOutB Try.prog = true := by kernel_rfl
theorem pok : POk Try.prog := pOk_of (by kernel_rfl)
theorem aok : AnnOk Try.prog an := annOk_of (by kernel_rfl)

theorem small {n : Nat} (h : n * 8 ≤ reachBytes) : (n : Int) ≤ 17592186043904 := by
  unfold reachBytes at h
  omega
abbrev N2 : Sh := .pr NI (.pr NI .nil)

abbrev S8 : Sh := .pr (.sl 8 NI) (.pr NI (.pr N2 .nil))
theorem run8 (x : S8.T) (h : Val S8 x) : ∃ k H', runX Try.prog an k 8 (argsY Try.prog Try.f8.params.toList S8 x) [] = some ([.one (.sc (.bool true))], H') := by
  obtain ⟨⟨_, _, h0, _⟩, _, ⟨w1, w2, _⟩, _⟩ := h
  have g1 := wf64 w1
  have g2 := wf64 w2
  exact law_of_pure (fn8 false x.1.1 x.1.1 x.1.2 (small h0) x.2.1 x.2.2.1.1 x.2.2.1.2.1 ⟨g1.1, g1.2, g2.1, g2.2⟩)
theorem lifted8 (os : Os) (started : os.Started) (H : Type) (enc : TypeId × Value → H) :
    ReturnsInHanded {} Try.checked os 8 .any (Rows.wheelGapsSpec.pre6 enc Try.prog Try.f8 Rows.wheelGapsRow.domain false) (Rows.wheelGapsSpec.post enc Try.prog Try.f8 false true false false) := by
  refine returnsInHanded_of_change_sized (C := Try.checked) own started (by kernel_rfl) Try.func8
    (ChangeSpec.witness6 (enc := enc) (C := Try.checked) false ⟨#[], #[.slice none 0 0, .int .i64 0, .agg #[.int .i64 0, .int .i64 0]], []⟩ 8 (by kernel_rfl) (by kernel_rfl) (by kernel_rfl) (by kernel_rfl)) ?_
  intro W base args ds gs before hval hW hc hw _
  exact law_contract laidOut pok aok (S := S8) (by kernel_rfl) (by kernel_rfl) ⟨4, by kernel_rfl, Try.underlying4⟩ rfl
    (fun ds hd => by match ds, hd with | [_, _, _], _ => rfl) run8 W base args ds gs before hval hW hc hw
theorem over8 : Rows.wheelGapsRow.holds Try.pinned (OpenSpec.ofChange Rows.wheelGapsSpec) :=
  OpenClaim.holds_of_wide 8 Try.f8 rfl rfl rfl rfl rfl rfl rfl ⟨rfl, rfl, rfl, rfl, rfl⟩ rfl rfl rfl rfl rfl (by kernel_rfl) Try.func8 (by kernel_rfl)
    (of_decide_eq_true (by kernel_rfl)) (by unfold Func.isWrapper; first | (rw [if_pos (by decide +kernel)]; kernel_rfl) | (rw [if_neg (by decide +kernel)]; exact ⟨rfl, rfl⟩))
    (fun os started H enc _ => lifted8 os started H enc)
theorem gaps : Rows.WheelGapsSaid := over8
#print axioms gaps

end Go.Proofs.Ytoieblpjklbmoaa
