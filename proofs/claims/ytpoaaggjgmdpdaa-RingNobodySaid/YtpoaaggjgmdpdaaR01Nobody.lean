/-
  RingNobody: a ring that nobody made answers nothing, and does not fail: for every n.
-/
import Derived.Test.YtpoaaggjgmdpdaaR01A
namespace Go.Proofs.Ytpoaaggjgmdpdaa.ringNobody
open Go.Lg

theorem run (n : Int) : (runX Try.prog A0 60 7 [.one (.sc (.int .i64 n))] []).map (·.1) = some [.one (.sc (.bool true))] := by kernel_rfl

theorem run' (x : (Sh.pr (.int .i64) .nil).T) (_ : Val (Sh.pr (.int .i64) .nil) x) : ∃ k H', runX Try.prog A0 k 7 (argsY Try.prog Try.f7.params.toList (Sh.pr (.int .i64) .nil) x) [] = some ([.one (.sc (.bool true))], H') := by
  have h := run x.1
  obtain ⟨⟨a, H'⟩, h1, h2⟩ := Option.map_eq_some_iff.1 h
  simp only at h2
  subst h2
  exact ⟨60, H', h1⟩

set_option maxRecDepth 100000 in
theorem lifted (os : Os) (started : os.Started) (H : Type) (enc : TypeId × Value → H) :
    ReturnsInHanded {} Try.checked os 7 .any (Rows.ringNobodySpec.pre6 enc Try.prog Try.f7 Rows.ringNobodyRow.domain false) (Rows.ringNobodySpec.post enc Try.prog Try.f7 false true false false) := by
  refine returnsInHanded_of_change_sized (C := Try.checked) own started (by kernel_rfl) Try.func7
    (ChangeSpec.witness6 (enc := enc) (C := Try.checked) false ⟨#[], #[.int .i64 0], []⟩ 8 (by kernel_rfl) (by kernel_rfl) (by kernel_rfl) (by kernel_rfl)) ?_
  intro W base args ds gs before hval hW hc hw _
  exact law_contract laidOut pok aok0 (S := .pr (.int .i64) .nil) (by kernel_rfl) (by kernel_rfl) ⟨4, by kernel_rfl, Try.underlying4⟩ rfl
    (fun ds hd => by match ds, hd with | [_], _ => rfl) run' W base args ds gs before hval hW hc hw

theorem over : Rows.ringNobodyRow.holds Try.pinned (OpenSpec.ofChange Rows.ringNobodySpec) :=
  OpenClaim.holds_of_wide 7 Try.f7 rfl rfl rfl rfl rfl rfl rfl ⟨rfl, rfl, rfl, rfl, rfl⟩ rfl rfl rfl rfl rfl (by kernel_rfl) Try.func7 (by kernel_rfl)
    (of_decide_eq_true (by kernel_rfl)) (by unfold Func.isWrapper; first | (rw [if_pos (by decide +kernel)]; kernel_rfl) | (rw [if_neg (by decide +kernel)]; exact ⟨rfl, rfl⟩))
    (fun os started H enc _ => lifted os started H enc)

theorem proved : Rows.RingNobodySaid := over
#print axioms proved
end Go.Proofs.Ytpoaaggjgmdpdaa.ringNobody
