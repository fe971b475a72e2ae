/-
  SuperNil: for every child and every now the law returns true, and the arguments read as before.
-/
import Derived.Test.YtbkdpmkjcoaapaaR28A
import Derived.Test.YtbkdpmkjcoaapaaX20
import Derived.Test.YtbkdpmkjcoaapaaRows
import Derived.WalkKit
import Derived.ProofKit
namespace Go.Proofs.Ytbkdpmkjcoaapaa
open Go.Lg
set_option maxRecDepth 100000
abbrev NI : Sh := .int .i64
theorem own : ownKnob Try.prog.godebug = none := by kernel_rfl
theorem laidOut : laidOutB Try.prog = true := by kernel_rfl
theorem pok : POk Try.prog := pOk_of (by kernel_rfl)
theorem aok : AnnOk Try.prog an := annOk_of (by kernel_rfl)

theorem runs (c n : Int) : (runX Try.prog an 400 4 [.one (.sc (.int .i64 c)), .one (.sc (.int .i64 n))] []).map (·.1) = some [.one (.sc (.bool true))] := by kernel_rfl


abbrev S4 : Sh := .pr NI (.pr NI .nil)
theorem run4 (x : S4.T) (h : Val S4 x) : ∃ k H', runX Try.prog an k 4 (argsY Try.prog Try.f4.params.toList S4 x) [] = some ([.one (.sc (.bool true))], H') := by
  have h := runs x.1 x.2.1
  obtain ⟨⟨a, H'⟩, h1, h2⟩ := Option.map_eq_some_iff.1 h
  simp only at h2
  subst h2
  exact ⟨400, H', h1⟩
theorem lifted4 (os : Os) (started : os.Started) (H : Type) (enc : TypeId × Value → H) :
    ReturnsInHanded {} Try.checked os 4 .any (Rows.superNilSpec.pre6 enc Try.prog Try.f4 Rows.superNilRow.domain false) (Rows.superNilSpec.post enc Try.prog Try.f4 false true false false) := by
  refine returnsInHanded_of_change_sized (C := Try.checked) own started (by kernel_rfl) Try.func4
    (ChangeSpec.witness6 (enc := enc) (C := Try.checked) false ⟨#[], #[.int .i64 0, .int .i64 0], []⟩ 8 (by kernel_rfl) (by kernel_rfl) (by kernel_rfl) (by kernel_rfl)) ?_
  intro W base args ds gs before hval hW hc hw _
  exact law_contract laidOut pok aok (S := S4) (by kernel_rfl) (by kernel_rfl) ⟨4, by kernel_rfl, Try.underlying4⟩ rfl
    (fun ds hd => by match ds, hd with | [_, _], _ => rfl) run4 W base args ds gs before hval hW hc hw
theorem over4 : Rows.superNilRow.holds Try.pinned (OpenSpec.ofChange Rows.superNilSpec) :=
  OpenClaim.holds_of_wide 4 Try.f4 rfl rfl rfl rfl rfl rfl rfl ⟨rfl, rfl, rfl, rfl, rfl⟩ rfl rfl rfl rfl rfl (by kernel_rfl) Try.func4 (by kernel_rfl)
    (of_decide_eq_true (by kernel_rfl)) (by unfold Func.isWrapper; first | (rw [if_pos (by decide +kernel)]; kernel_rfl) | (rw [if_neg (by decide +kernel)]; exact ⟨rfl, rfl⟩))
    (fun os started H enc _ => lifted4 os started H enc)
theorem nobody : Rows.SuperNilSaid := over4
#print axioms nobody

end Go.Proofs.Ytbkdpmkjcoaapaa
