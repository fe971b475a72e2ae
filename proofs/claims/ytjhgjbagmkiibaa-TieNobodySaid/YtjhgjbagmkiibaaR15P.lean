/-
  TieNobody: for every two pids and every number the law returns true, and the arguments read as before.
-/
import Derived.Test.YtjhgjbagmkiibaaR15A
import Derived.Test.YtjhgjbagmkiibaaX20
import Derived.Test.YtjhgjbagmkiibaaRows
import Derived.WalkKit
import Derived.ProofKit
namespace Go.Proofs.Ytjhgjbagmkiibaa
open Go.Lg
set_option maxRecDepth 100000
abbrev NI : Sh := .int .i64
abbrev PI : Sh := .pr NI (.pr NI .nil)
theorem own : ownKnob Try.prog.godebug = none := by kernel_rfl
theorem laidOut : laidOutB Try.prog = true := by kernel_rfl
theorem pok : POk Try.prog := pOk_of (by kernel_rfl)
theorem aok : AnnOk Try.prog an := annOk_of (by kernel_rfl)

theorem runs (a1 a2 b1 b2 n : Int) : (runX Try.prog an 700 6 [.agg [.sc (.int .i64 a1), .sc (.int .i64 a2)], .agg [.sc (.int .i64 b1), .sc (.int .i64 b2)], .one (.sc (.int .i64 n))] []).map (·.1) = some [.one (.sc (.bool true))] := by kernel_rfl


abbrev S6 : Sh := .pr PI (.pr PI (.pr NI .nil))
theorem run6 (x : S6.T) (h : Val S6 x) : ∃ k H', runX Try.prog an k 6 (argsY Try.prog Try.f6.params.toList S6 x) [] = some ([.one (.sc (.bool true))], H') := by
  have h := runs x.1.1 x.1.2.1 x.2.1.1 x.2.1.2.1 x.2.2.1
  obtain ⟨⟨a, H'⟩, h1, h2⟩ := Option.map_eq_some_iff.1 h
  simp only at h2
  subst h2
  exact ⟨700, H', h1⟩
theorem lifted6 (os : Os) (started : os.Started) (H : Type) (enc : TypeId × Value → H) :
    ReturnsInHanded {} Try.checked os 6 .any (Rows.tieNobodySpec.pre6 enc Try.prog Try.f6 Rows.tieNobodyRow.domain false) (Rows.tieNobodySpec.post enc Try.prog Try.f6 false true false false) := by
  refine returnsInHanded_of_change_sized (C := Try.checked) own started (by kernel_rfl) Try.func6
    (ChangeSpec.witness6 (enc := enc) (C := Try.checked) false ⟨#[], #[.agg #[.int .i64 0, .int .i64 0], .agg #[.int .i64 0, .int .i64 0], .int .i64 0], []⟩ 8 (by kernel_rfl) (by kernel_rfl) (by kernel_rfl) (by kernel_rfl)) ?_
  intro W base args ds gs before hval hW hc hw _
  exact law_contract laidOut pok aok (S := S6) (by kernel_rfl) (by kernel_rfl) ⟨4, by kernel_rfl, Try.underlying4⟩ rfl
    (fun ds hd => by match ds, hd with | [_, _, _], _ => rfl) run6 W base args ds gs before hval hW hc hw
theorem over6 : Rows.tieNobodyRow.holds Try.pinned (OpenSpec.ofChange Rows.tieNobodySpec) :=
  OpenClaim.holds_of_wide 6 Try.f6 rfl rfl rfl rfl rfl rfl rfl ⟨rfl, rfl, rfl, rfl, rfl⟩ rfl rfl rfl rfl rfl (by kernel_rfl) Try.func6 (by kernel_rfl)
    (of_decide_eq_true (by kernel_rfl)) (by unfold Func.isWrapper; first | (rw [if_pos (by decide +kernel)]; kernel_rfl) | (rw [if_neg (by decide +kernel)]; exact ⟨rfl, rfl⟩))
    (fun os started H enc _ => lifted6 os started H enc)
theorem nobody : Rows.TieNobodySaid := over6
#print axioms nobody

end Go.Proofs.Ytjhgjbagmkiibaa
