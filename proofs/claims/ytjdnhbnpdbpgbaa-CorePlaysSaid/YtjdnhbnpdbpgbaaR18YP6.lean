/-
 CorePlays: for every script the law returns true, and the arguments read as before.
-/
import Derived.Test.YtjdnhbnpdbpgbaaR18YQ
import Derived.Test.YtjdnhbnpdbpgbaaX20
import Derived.Test.YtjdnhbnpdbpgbaaRows
import Derived.WalkKit
import Derived.ProofKit
namespace Go.Proofs.Ytjdnhbnpdbpgbaa
open Go.Lg
set_option maxRecDepth 100000
theorem own : ownKnob Try.prog.godebug = none := by kernel_rfl
theorem laidOut : laidOutB Try.prog = true := by kernel_rfl
theorem pok : POk Try.prog := pOk_of (by kernel_rfl)
theorem aok : AnnOk Try.prog an := annOk_of (by kernel_rfl)
theorem okW_nil {l : List Int} (h : okW l = true) (h0 : l = []) : False := by
 subst h0
 have := okW_len h
 simp at this
abbrev S6 : Sh := .pr (.sl 104 OPE) .nil
theorem run6 (x : S6.T) (h : Val S6 x) : ∃ k H', runX Try.prog an k 6 (argsY Try.prog Try.f6.params.toList S6 x) [] = some ([.one (.sc (.bool true))], H') := by
 obtain ⟨⟨_, _, h0, hv⟩, _⟩ := h
 exact law_of_pure (fn6 false x.1.1 x.1.1 x.1.2 (by unfold reachBytes at h0; omega) (fun y hy => by
  obtain ⟨_, _, _, _, w, _, ⟨_, _, h1, _⟩, ⟨hn, _, h2, _⟩, _⟩ := hv y hy
  have g := wf64 w
  refine ⟨g.1, g.2, by unfold reachBytes at h1; omega, by unfold reachBytes at h2; omega, fun ho => ?_⟩
  cases hx : y.2.2.2.2.2.2.2.1.1 with
  | false => rfl
  | true => exact (okW_nil ho (hn hx)).elim))
theorem lifted6 (os : Os) (started : os.Started) (H : Type) (enc : TypeId × Value → H) :
  ReturnsInHanded {} Try.checked os 6 .any (Rows.corePlaysSpec.pre6 enc Try.prog Try.f6 Rows.corePlaysRow.domain false) (Rows.corePlaysSpec.post enc Try.prog Try.f6 false true false false) := by
 refine returnsInHanded_of_change_sized (C := Try.checked) own started (by kernel_rfl) Try.func6
  (ChangeSpec.witness6 (enc := enc) (C := Try.checked) false ⟨#[], #[.slice none 0 0], []⟩ 8 (by kernel_rfl) (by kernel_rfl) (by kernel_rfl) (by kernel_rfl)) ?_
 intro W base args ds gs before hval hW hc hw _
 exact law_contract laidOut pok aok (S := S6) (by kernel_rfl) (by kernel_rfl) ⟨4, by kernel_rfl, Try.underlying4⟩ rfl
  (fun ds hd => by match ds, hd with | [_], _ => rfl) run6 W base args ds gs before hval hW hc hw
theorem over6 : Rows.corePlaysRow.holds Try.pinned (OpenSpec.ofChange Rows.corePlaysSpec) :=
 OpenClaim.holds_of_wide 6 Try.f6 rfl rfl rfl rfl rfl rfl rfl ⟨rfl, rfl, rfl, rfl, rfl⟩ rfl rfl rfl rfl rfl (by kernel_rfl) Try.func6 (by kernel_rfl)
  (of_decide_eq_true (by kernel_rfl)) (by unfold Func.isWrapper; first | (rw [if_pos (by decide +kernel)]; kernel_rfl) | (rw [if_neg (by decide +kernel)]; exact ⟨rfl, rfl⟩))
  (fun os started H enc _ => lifted6 os started H enc)
theorem plays : Rows.CorePlaysSaid := over6
#print axioms plays
end Go.Proofs.Ytjdnhbnpdbpgbaa
