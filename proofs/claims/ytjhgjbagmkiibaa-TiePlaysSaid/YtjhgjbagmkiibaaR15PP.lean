/-
 TiePlays: for every script the law returns true, and the argument reads as before.
-/
import Derived.Test.YtjhgjbagmkiibaaR15FE
import Derived.Test.YtjhgjbagmkiibaaX19
import Derived.Test.YtjhgjbagmkiibaaRows
import Derived.WalkKit
import Derived.ProofKit
namespace Go.Proofs.Ytjhgjbagmkiibaa
open Go.Lg
set_option maxRecDepth 100000
theorem own : ownKnob Try.prog.godebug = none := by kernel_rfl
theorem laidOut : laidOutB Try.prog = true := by kernel_rfl
theorem pok : POk Try.prog := E0.pok
abbrev S5 : Sh := .pr (.sl 48 E.OP5) .nil
theorem run5 (x : S5.T) (h : Val S5 x) : ∃ k H', runX Try.prog E.an k 5 (argsY Try.prog Try.f5.params.toList S5 x) [] = some ([.one (.sc (.bool true))], H') := by
 obtain ⟨⟨_, _, hs, _⟩, _⟩ := h
 exact law_of_pure (E.fn5 false x.1.1 x.1.1 x.1.2 (by unfold reachBytes at hs; omega))
theorem lifted5 (os : Os) (started : os.Started) (H : Type) (enc : TypeId × Value → H) :
  ReturnsInHanded {} Try.checked os 5 .any (Rows.tiePlaysSpec.pre6 enc Try.prog Try.f5 Rows.tiePlaysRow.domain false) (Rows.tiePlaysSpec.post enc Try.prog Try.f5 false true false false) := by
 refine returnsInHanded_of_change_sized (C := Try.checked) own started (by kernel_rfl) Try.func5
  (ChangeSpec.witness6 (enc := enc) (C := Try.checked) false ⟨#[], #[.slice none 0 0], []⟩ 8 (by kernel_rfl) (by kernel_rfl) (by kernel_rfl) (by kernel_rfl)) ?_
 intro W base args ds gs before hval hW hc hw _
 exact law_contract laidOut pok E.aok (S := S5) (by kernel_rfl) (by kernel_rfl) ⟨4, by kernel_rfl, Try.underlying4⟩ rfl
  (fun ds hd => by match ds, hd with | [_], _ => rfl) run5 W base args ds gs before hval hW hc hw
theorem over5 : Rows.tiePlaysRow.holds Try.pinned (OpenSpec.ofChange Rows.tiePlaysSpec) :=
 OpenClaim.holds_of_wide 5 Try.f5 rfl rfl rfl rfl rfl rfl rfl ⟨rfl, rfl, rfl, rfl, rfl⟩ rfl rfl rfl rfl rfl (by kernel_rfl) Try.func5 (by kernel_rfl)
  (of_decide_eq_true (by kernel_rfl)) (by unfold Func.isWrapper; first | (rw [if_pos (by decide +kernel)]; kernel_rfl) | (rw [if_neg (by decide +kernel)]; exact ⟨rfl, rfl⟩))
  (fun os started H enc _ => lifted5 os started H enc)
theorem plays : Rows.TiePlaysSaid := over5
#print axioms plays
end Go.Proofs.Ytjhgjbagmkiibaa
