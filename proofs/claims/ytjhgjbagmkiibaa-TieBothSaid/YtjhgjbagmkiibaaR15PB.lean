/-
  TieBoth: for every script and every pid the law returns true, and the arguments read as before.
-/
import Derived.Test.YtjhgjbagmkiibaaR15EH
import Derived.Test.YtjhgjbagmkiibaaX19
import Derived.Test.YtjhgjbagmkiibaaRows
import Derived.WalkKit
import Derived.ProofKit
namespace Go.Proofs.Ytjhgjbagmkiibaa
open Go.Lg
set_option maxRecDepth 100000
theorem own : ownKnob Try.prog.godebug = none := by kernel_rfl
theorem laidOut : laidOutB Try.prog = true := by kernel_rfl
theorem pok : POk Try.prog := E0.pok
abbrev S3 : Sh := .pr (.sl 48 E.OP5) (.pr PD .nil)
theorem run3 (x : S3.T) (h : Val S3 x) : ∃ k H', runX Try.prog E.an k 3 (argsY Try.prog Try.f3.params.toList S3 x) [] = some ([.one (.sc (.bool true))], H') := by
  obtain ⟨⟨_, _, hs, _⟩, _⟩ := h
  exact law_of_pure (E.fn3 false x.1.1 x.1.1 x.1.2 x.2.1 (by unfold reachBytes at hs; omega))
theorem lifted3 (os : Os) (started : os.Started) (H : Type) (enc : TypeId × Value → H) :
    ReturnsInHanded {} Try.checked os 3 .any (Rows.tieBothSpec.pre6 enc Try.prog Try.f3 Rows.tieBothRow.domain false) (Rows.tieBothSpec.post enc Try.prog Try.f3 false true false false) := by
  refine returnsInHanded_of_change_sized (C := Try.checked) own started (by kernel_rfl) Try.func3
    (ChangeSpec.witness6 (enc := enc) (C := Try.checked) false ⟨#[], #[.slice none 0 0, .agg #[.int .i64 0, .int .i64 0]], []⟩ 8 (by kernel_rfl) (by kernel_rfl) (by kernel_rfl) (by kernel_rfl)) ?_
  intro W base args ds gs before hval hW hc hw _
  exact law_contract laidOut pok E.aok (S := S3) (by kernel_rfl) (by kernel_rfl) ⟨4, by kernel_rfl, Try.underlying4⟩ rfl
    (fun ds hd => by match ds, hd with | [_, _], _ => rfl) run3 W base args ds gs before hval hW hc hw
theorem over3 : Rows.tieBothRow.holds Try.pinned (OpenSpec.ofChange Rows.tieBothSpec) :=
  OpenClaim.holds_of_wide 3 Try.f3 rfl rfl rfl rfl rfl rfl rfl ⟨rfl, rfl, rfl, rfl, rfl⟩ rfl rfl rfl rfl rfl (by kernel_rfl) Try.func3 (by kernel_rfl)
    (of_decide_eq_true (by kernel_rfl)) (by unfold Func.isWrapper; first | (rw [if_pos (by decide +kernel)]; kernel_rfl) | (rw [if_neg (by decide +kernel)]; exact ⟨rfl, rfl⟩))
    (fun os started H enc _ => lifted3 os started H enc)
theorem both : Rows.TieBothSaid := over3
#print axioms both
end Go.Proofs.Ytjhgjbagmkiibaa
