/-
  TieLoads: for every list of ties the law returns true, and the argument reads as before.
-/
import Derived.Test.YtjhgjbagmkiibaaR15EX
import Derived.Test.YtjhgjbagmkiibaaX19
import Derived.Test.YtjhgjbagmkiibaaRows
import Derived.WalkKit
import Derived.ProofKit
namespace Go.Proofs.Ytjhgjbagmkiibaa
open Go.Lg
set_option maxRecDepth 100000
theorem own : ownKnob Try.prog.godebug = none := by kernel_rfl
theorem laidOut : laidOutB Try.prog = true := by kernel_rfl
theorem pok : POk Try.prog := E0.pok
abbrev S4 : Sh := .pr (.sl 40 TT5) .nil
theorem run4 (x : S4.T) (h : Val S4 x) : ∃ k H', runX Try.prog E.an k 4 (argsY Try.prog Try.f4.params.toList S4 x) [] = some ([.one (.sc (.bool true))], H') := by
  obtain ⟨⟨_, _, hs, _⟩, _⟩ := h
  exact law_of_pure (E.fn4 false x.1.1 x.1.1 x.1.2 (by unfold reachBytes at hs; omega))
theorem lifted4 (os : Os) (started : os.Started) (H : Type) (enc : TypeId × Value → H) :
    ReturnsInHanded {} Try.checked os 4 .any (Rows.tieLoadsSpec.pre6 enc Try.prog Try.f4 Rows.tieLoadsRow.domain false) (Rows.tieLoadsSpec.post enc Try.prog Try.f4 false true false false) := by
  refine returnsInHanded_of_change_sized (C := Try.checked) own started (by kernel_rfl) Try.func4
    (ChangeSpec.witness6 (enc := enc) (C := Try.checked) false ⟨#[], #[.slice none 0 0], []⟩ 8 (by kernel_rfl) (by kernel_rfl) (by kernel_rfl) (by kernel_rfl)) ?_
  intro W base args ds gs before hval hW hc hw _
  exact law_contract laidOut pok E.aok (S := S4) (by kernel_rfl) (by kernel_rfl) ⟨4, by kernel_rfl, Try.underlying4⟩ rfl
    (fun ds hd => by match ds, hd with | [_], _ => rfl) run4 W base args ds gs before hval hW hc hw
theorem over4 : Rows.tieLoadsRow.holds Try.pinned (OpenSpec.ofChange Rows.tieLoadsSpec) :=
  OpenClaim.holds_of_wide 4 Try.f4 rfl rfl rfl rfl rfl rfl rfl ⟨rfl, rfl, rfl, rfl, rfl⟩ rfl rfl rfl rfl rfl (by kernel_rfl) Try.func4 (by kernel_rfl)
    (of_decide_eq_true (by kernel_rfl)) (by unfold Func.isWrapper; first | (rw [if_pos (by decide +kernel)]; kernel_rfl) | (rw [if_neg (by decide +kernel)]; exact ⟨rfl, rfl⟩))
    (fun os started H enc _ => lifted4 os started H enc)
theorem loads : Rows.TieLoadsSaid := over4
#print axioms loads
end Go.Proofs.Ytjhgjbagmkiibaa
