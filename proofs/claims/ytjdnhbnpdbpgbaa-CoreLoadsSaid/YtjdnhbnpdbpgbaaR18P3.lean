/-
  CoreLoads: for all slots, every hand and all queues the law returns true, and the arguments read as before.
-/
import Derived.Test.YtjdnhbnpdbpgbaaR18T
import Derived.Test.YtjdnhbnpdbpgbaaX20
import Derived.Test.YtjdnhbnpdbpgbaaRows
import Derived.WalkKit
import Derived.ProofKit
namespace Go.Proofs.Ytjdnhbnpdbpgbaa
open Go.Lg
set_option maxRecDepth 100000
theorem own : ownKnob Try.prog.godebug = none := by kernel_rfl
theorem laidOut : laidOutB Try.prog = true := by kernel_rfl
theorem pok : POk Try.prog := pOk_of (by kernel_rfl)
theorem aok : AnnOk Try.prog an := annOk_of (by kernel_rfl)
abbrev Q3 : Sh := .pr (.sl 24 EN) (.pr (.sl 24 EN) (.pr (.sl 24 EN) .nil))
abbrev S3 : Sh := .pr (.sl 8 NI) (.pr NI (.pr Q3 .nil))
theorem run3 (x : S3.T) (h : Val S3 x) : ∃ k H', runX Try.prog an k 3 (argsY Try.prog Try.f3.params.toList S3 x) [] = some ([.one (.sc (.bool true))], H') := by
  obtain ⟨⟨_, _, hs, _⟩, _, ⟨⟨_, _, h0, _⟩, ⟨_, _, h1, _⟩, ⟨_, _, h2, _⟩, _⟩, _⟩ := h
  refine law_of_pure (fn3 false x.1.1 x.1.1 x.1.2 ?_ x.2.1 false x.2.2.1.1.1 x.2.2.1.1.1 false x.2.2.1.2.1.1 x.2.2.1.2.1.1 false x.2.2.1.2.2.1.1 x.2.2.1.2.2.1.1 x.2.2.1.1.2 x.2.2.1.2.1.2 x.2.2.1.2.2.1.2 ?_ ?_ ?_)
  · unfold reachBytes at hs; omega
  · unfold reachBytes at h0; omega
  · unfold reachBytes at h1; omega
  · unfold reachBytes at h2; omega
theorem lifted3 (os : Os) (started : os.Started) (H : Type) (enc : TypeId × Value → H) :
    ReturnsInHanded {} Try.checked os 3 .any (Rows.coreLoadsSpec.pre6 enc Try.prog Try.f3 Rows.coreLoadsRow.domain false) (Rows.coreLoadsSpec.post enc Try.prog Try.f3 false true false false) := by
  refine returnsInHanded_of_change_sized (C := Try.checked) own started (by kernel_rfl) Try.func3
    (ChangeSpec.witness6 (enc := enc) (C := Try.checked) false ⟨#[], #[.slice none 0 0, .int .i64 0, .agg #[.slice none 0 0, .slice none 0 0, .slice none 0 0]], []⟩ 8 (by kernel_rfl) (by kernel_rfl) (by kernel_rfl) (by kernel_rfl)) ?_
  intro W base args ds gs before hval hW hc hw _
  exact law_contract laidOut pok aok (S := S3) (by kernel_rfl) (by kernel_rfl) ⟨4, by kernel_rfl, Try.underlying4⟩ rfl
    (fun ds hd => by match ds, hd with | [_, _, _], _ => rfl) run3 W base args ds gs before hval hW hc hw
theorem over3 : Rows.coreLoadsRow.holds Try.pinned (OpenSpec.ofChange Rows.coreLoadsSpec) :=
  OpenClaim.holds_of_wide 3 Try.f3 rfl rfl rfl rfl rfl rfl rfl ⟨rfl, rfl, rfl, rfl, rfl⟩ rfl rfl rfl rfl rfl (by kernel_rfl) Try.func3 (by kernel_rfl)
    (of_decide_eq_true (by kernel_rfl)) (by unfold Func.isWrapper; first | (rw [if_pos (by decide +kernel)]; kernel_rfl) | (rw [if_neg (by decide +kernel)]; exact ⟨rfl, rfl⟩))
    (fun os started H enc _ => lifted3 os started H enc)
theorem loads : Rows.CoreLoadsSaid := over3
#print axioms loads
end Go.Proofs.Ytjdnhbnpdbpgbaa
