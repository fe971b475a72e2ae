/-
  StealDoes: for every pair of cores and every room the law returns true, and the arguments read as before.
-/
import Derived.Test.YtoidoeappihplaaR19SV
import Derived.Test.YtoidoeappihplaaX20
import Derived.Test.YtoidoeappihplaaRows
import Derived.WalkKit
import Derived.ProofKit
namespace Go.Proofs.Ytoidoeappihplaa
open Go.Lg
set_option maxRecDepth 100000
theorem own : ownKnob Try.prog.godebug = none := by kernel_rfl
theorem laidOut : laidOutB Try.prog = true := by kernel_rfl
theorem pok : POk Try.prog := pOk_of (by kernel_rfl)
theorem aok : AnnOk Try.prog an := annOk_of (by kernel_rfl)
abbrev Q3 : Sh := .pr (.sl 24 EN) (.pr (.sl 24 EN) (.pr (.sl 24 EN) .nil))
abbrev R3 : Sh := .pr NI (.pr NI (.pr NI .nil))
theorem okW_nil {l : List Int} (h : okW l = true) (hl : l = []) : False := by
  subst hl
  cases h
abbrev S5 : Sh := .pr (.pr (.sl 8 NI) (.pr Q3 (.pr Q3 .nil))) (.pr R3 .nil)
theorem run5 (x : S5.T) (h : Val S5 x) : ∃ k H', runX Try.prog an k 5 (argsY Try.prog Try.f5.params.toList S5 x) [] = some ([.one (.sc (.bool true))], H') := by
  obtain ⟨⟨⟨hn, _, hs, _⟩, ⟨⟨_, _, a0, _⟩, ⟨_, _, a1, _⟩, ⟨_, _, a2, _⟩, _⟩, ⟨⟨_, _, b0, _⟩, ⟨_, _, b1, _⟩, ⟨_, _, b2, _⟩, _⟩, _⟩, ⟨w0, w1, w2, _⟩, _⟩ := h
  have g0 := wf64 w0
  have g1 := wf64 w1
  have g2 := wf64 w2
  refine law_of_pure (fn5 false x.1.1.1 x.1.1.1 x.1.1.2 false x.1.2.1.1.1 x.1.2.1.1.1 false x.1.2.1.2.1.1 x.1.2.1.2.1.1 false x.1.2.1.2.2.1.1 x.1.2.1.2.2.1.1 false x.1.2.2.1.1.1 x.1.2.2.1.1.1 false x.1.2.2.1.2.1.1 x.1.2.2.1.2.1.1 false x.1.2.2.1.2.2.1.1 x.1.2.2.1.2.2.1.1 x.1.2.1.1.2 x.1.2.1.2.1.2 x.1.2.1.2.2.1.2 x.1.2.2.1.1.2 x.1.2.2.1.2.1.2 x.1.2.2.1.2.2.1.2 x.2.1.1 x.2.1.2.1 x.2.1.2.2.1 ?_ ?_ ?_ ?_ ?_ ?_ ?_ ⟨g0.1, g0.2, g1.1, g1.2, g2.1, g2.2⟩ ?_)
  · unfold reachBytes at hs; omega
  · unfold reachBytes at a0; omega
  · unfold reachBytes at a1; omega
  · unfold reachBytes at a2; omega
  · unfold reachBytes at b0; omega
  · unfold reachBytes at b1; omega
  · unfold reachBytes at b2; omega
  · intro hok
    cases hx : x.1.1.1 with
    | false => rfl
    | true => exact (okW_nil hok (hn hx)).elim
theorem lifted5 (os : Os) (started : os.Started) (H : Type) (enc : TypeId × Value → H) :
    ReturnsInHanded {} Try.checked os 5 .any (Rows.stealDoesSpec.pre6 enc Try.prog Try.f5 Rows.stealDoesRow.domain false) (Rows.stealDoesSpec.post enc Try.prog Try.f5 false true false false) := by
  refine returnsInHanded_of_change_sized (C := Try.checked) own started (by kernel_rfl) Try.func5
    (ChangeSpec.witness6 (enc := enc) (C := Try.checked) false ⟨#[], #[.agg #[.slice none 0 0, .slice none 0 0, .slice none 0 0, .slice none 0 0, .slice none 0 0, .slice none 0 0, .slice none 0 0], .agg #[.int .i64 0, .int .i64 0, .int .i64 0]], []⟩ 8 (by kernel_rfl) (by kernel_rfl) (by kernel_rfl) (by kernel_rfl)) ?_
  intro W base args ds gs before hval hW hc hw _
  exact law_contract laidOut pok aok (S := S5) (by kernel_rfl) (by kernel_rfl) ⟨4, by kernel_rfl, Try.underlying4⟩ rfl
    (fun ds hd => by match ds, hd with | [_, _], _ => rfl) run5 W base args ds gs before hval hW hc hw
theorem over5 : Rows.stealDoesRow.holds Try.pinned (OpenSpec.ofChange Rows.stealDoesSpec) :=
  OpenClaim.holds_of_wide 5 Try.f5 rfl rfl rfl rfl rfl rfl rfl ⟨rfl, rfl, rfl, rfl, rfl⟩ rfl rfl rfl rfl rfl (by kernel_rfl) Try.func5 (by kernel_rfl)
    (of_decide_eq_true (by kernel_rfl)) (by unfold Func.isWrapper; first | (rw [if_pos (by decide +kernel)]; kernel_rfl) | (rw [if_neg (by decide +kernel)]; exact ⟨rfl, rfl⟩))
    (fun os started H enc _ => lifted5 os started H enc)
theorem does : Rows.StealDoesSaid := over5
#print axioms does
end Go.Proofs.Ytoidoeappihplaa
