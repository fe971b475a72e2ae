/-
  CoreServes: for all slots, every hand, all queues and all moves the law returns true, and the arguments read as before.
-/
import Derived.Test.YtjdnhbnpdbpgbaaR18W
import Derived.Test.YtjdnhbnpdbpgbaaX20
import Derived.Test.YtjdnhbnpdbpgbaaRows
import Derived.WalkKit
import Derived.ProofKit
namespace Go.Proofs.Ytjdnhbnpdbpgbaa
open Go.Lg
set_option maxRecDepth 100000
theorem own : ownKnob Try.prog.godebug = none := by kernel_rfl
theorem laidOut : laidOutB Try.prog = true := by kernel_rfl
theorem pok : POk Try.prog := pOk_of (by kernel_rfl)
theorem aok : AnnOk Try.prog an := annOk_of (by kernel_rfl)
abbrev Q3 : Sh := .pr (.sl 24 EN) (.pr (.sl 24 EN) (.pr (.sl 24 EN) .nil))
theorem okW_nil {l : List Int} (h : okW l = true) (hl : l = []) : False := by
  subst hl
  cases h
abbrev S4 : Sh := .pr (.sl 8 NI) (.pr NI (.pr Q3 (.pr (.sl 32 MV) .nil)))
theorem run4 (x : S4.T) (h : Val S4 x) : ∃ k H', runX Try.prog an k 4 (argsY Try.prog Try.f4.params.toList S4 x) [] = some ([.one (.sc (.bool true))], H') := by
  obtain ⟨⟨hn, _, hs, _⟩, _, ⟨⟨_, _, h0, _⟩, ⟨_, _, h1, _⟩, ⟨_, _, h2, _⟩, _⟩, ⟨_, _, h3, _⟩, _⟩ := h
  refine law_of_pure (fn4 false x.1.1 x.1.1 x.1.2 ?_ x.2.1 false x.2.2.1.1.1 x.2.2.1.1.1 false x.2.2.1.2.1.1 x.2.2.1.2.1.1 false x.2.2.1.2.2.1.1 x.2.2.1.2.2.1.1 x.2.2.1.1.2 x.2.2.1.2.1.2 x.2.2.1.2.2.1.2 ?_ ?_ ?_ false x.2.2.2.1.1 x.2.2.2.1.1 x.2.2.2.1.2 ?_ ?_)
  · unfold reachBytes at hs; omega
  · unfold reachBytes at h0; omega
  · unfold reachBytes at h1; omega
  · unfold reachBytes at h2; omega
  · unfold reachBytes at h3; omega
  · intro hok
    cases hx : x.1.1 with
    | false => rfl
    | true => exact (okW_nil hok (hn hx)).elim
theorem lifted4 (os : Os) (started : os.Started) (H : Type) (enc : TypeId × Value → H) :
    ReturnsInHanded {} Try.checked os 4 .any (Rows.coreServesSpec.pre6 enc Try.prog Try.f4 Rows.coreServesRow.domain false) (Rows.coreServesSpec.post enc Try.prog Try.f4 false true false false) := by
  refine returnsInHanded_of_change_sized (C := Try.checked) own started (by kernel_rfl) Try.func4
    (ChangeSpec.witness6 (enc := enc) (C := Try.checked) false ⟨#[], #[.slice none 0 0, .int .i64 0, .agg #[.slice none 0 0, .slice none 0 0, .slice none 0 0], .slice none 0 0], []⟩ 8 (by kernel_rfl) (by kernel_rfl) (by kernel_rfl) (by kernel_rfl)) ?_
  intro W base args ds gs before hval hW hc hw _
  exact law_contract laidOut pok aok (S := S4) (by kernel_rfl) (by kernel_rfl) ⟨4, by kernel_rfl, Try.underlying4⟩ rfl
    (fun ds hd => by match ds, hd with | [_, _, _, _], _ => rfl) run4 W base args ds gs before hval hW hc hw
theorem over4 : Rows.coreServesRow.holds Try.pinned (OpenSpec.ofChange Rows.coreServesSpec) :=
  OpenClaim.holds_of_wide 4 Try.f4 rfl rfl rfl rfl rfl rfl rfl ⟨rfl, rfl, rfl, rfl, rfl⟩ rfl rfl rfl rfl rfl (by kernel_rfl) Try.func4 (by kernel_rfl)
    (of_decide_eq_true (by kernel_rfl)) (by unfold Func.isWrapper; first | (rw [if_pos (by decide +kernel)]; kernel_rfl) | (rw [if_neg (by decide +kernel)]; exact ⟨rfl, rfl⟩))
    (fun os started H enc _ => lifted4 os started H enc)
theorem serves : Rows.CoreServesSaid := over4
#print axioms serves
end Go.Proofs.Ytjdnhbnpdbpgbaa
