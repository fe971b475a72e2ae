/-
  CoreOrder: for all slots, all pushes and every cut the law returns true, and the arguments read as before.
-/
import Derived.Test.YtjdnhbnpdbpgbaaR18Q
import Derived.Test.YtjdnhbnpdbpgbaaX20
import Derived.Test.YtjdnhbnpdbpgbaaRows
import Derived.WalkKit
import Derived.ProofKit
namespace Go.Proofs.Ytjdnhbnpdbpgbaa
open Go.Lg
set_option maxRecDepth 100000
theorem own : ownKnob Try.prog.godebug = none := by kernel_rfl
theorem laidOut : laidOutB Try.prog = true := by kernel_rfl
theorem pok : POk Try.prog := pOk_of (by kernel_rfl)
theorem aok : AnnOk Try.prog an := annOk_of (by kernel_rfl)
theorem okW_nil {l : List Int} (h : okW l = true) (hl : l = []) : False := by
  subst hl
  cases h
abbrev S5 : Sh := .pr (.sl 8 NI) (.pr (.sl 32 MV) (.pr NI .nil))
theorem run5 (x : S5.T) (h : Val S5 x) : ∃ k H', runX Try.prog an k 5 (argsY Try.prog Try.f5.params.toList S5 x) [] = some ([.one (.sc (.bool true))], H') := by
  obtain ⟨⟨hn, _, h0, _⟩, ⟨_, _, h1, _⟩, h2, _⟩ := h
  have g := wf64 h2
  refine law_of_pure (fn5 x.2.2.1 false x.1.1 x.1.1 false x.2.1.1 x.2.1.1 x.1.2 x.2.1.2 ?_ ?_ g.1 g.2 ?_)
  · unfold reachBytes at h0; omega
  · unfold reachBytes at h1; omega
  · intro hok
    cases hx : x.1.1 with
    | false => rfl
    | true => exact (okW_nil hok (hn hx)).elim
theorem lifted5 (os : Os) (started : os.Started) (H : Type) (enc : TypeId × Value → H) :
    ReturnsInHanded {} Try.checked os 5 .any (Rows.coreOrderSpec.pre6 enc Try.prog Try.f5 Rows.coreOrderRow.domain false) (Rows.coreOrderSpec.post enc Try.prog Try.f5 false true false false) := by
  refine returnsInHanded_of_change_sized (C := Try.checked) own started (by kernel_rfl) Try.func5
    (ChangeSpec.witness6 (enc := enc) (C := Try.checked) false ⟨#[], #[.slice none 0 0, .slice none 0 0, .int .i64 0], []⟩ 8 (by kernel_rfl) (by kernel_rfl) (by kernel_rfl) (by kernel_rfl)) ?_
  intro W base args ds gs before hval hW hc hw _
  exact law_contract laidOut pok aok (S := S5) (by kernel_rfl) (by kernel_rfl) ⟨4, by kernel_rfl, Try.underlying4⟩ rfl
    (fun ds hd => by match ds, hd with | [_, _, _], _ => rfl) run5 W base args ds gs before hval hW hc hw
theorem over5 : Rows.coreOrderRow.holds Try.pinned (OpenSpec.ofChange Rows.coreOrderSpec) :=
  OpenClaim.holds_of_wide 5 Try.f5 rfl rfl rfl rfl rfl rfl rfl ⟨rfl, rfl, rfl, rfl, rfl⟩ rfl rfl rfl rfl rfl (by kernel_rfl) Try.func5 (by kernel_rfl)
    (of_decide_eq_true (by kernel_rfl)) (by unfold Func.isWrapper; first | (rw [if_pos (by decide +kernel)]; kernel_rfl) | (rw [if_neg (by decide +kernel)]; exact ⟨rfl, rfl⟩))
    (fun os started H enc _ => lifted5 os started H enc)
theorem order : Rows.CoreOrderSaid := over5
#print axioms order
end Go.Proofs.Ytjdnhbnpdbpgbaa
