/-
  RingWindowsUpto: for every room, list and count of bulk at most 1,048,576 the law returns true, and the arguments read as before.
-/
import Derived.Test.YtpoaaggjgmdpdaaR01O
import Derived.Test.YtpoaaggjgmdpdaaX20
import Derived.Test.YtpoaaggjgmdpdaaRows
import Derived.WalkKit
import Derived.ProofKit
import Derived.JoinedCond
import Derived.Deep.CondSized
namespace Go.Proofs.Ytpoaaggjgmdpdaa
open Go.Lg
set_option maxRecDepth 100000
theorem own : ownKnob Try.prog.godebug = none := by kernel_rfl
theorem laidOut : laidOutB Try.prog = true := by kernel_rfl
theorem pok : POk Try.prog := pOk_of (by kernel_rfl)
theorem aok : AnnOk Try.prog an := annOk_of (by kernel_rfl)

/-- The rows' own way to count is a way to count. -/
def bulk (H : Type) : Bulk H where
  one := Rows.uptoBulk
  all := Rows.uptoBulkAll
  pos := fun d => by unfold Rows.uptoBulk; split <;> omega
  nil := by simp only [Rows.uptoBulkAll]
  cons := fun d r => by simp only [Rows.uptoBulkAll]
  slice := fun a b => by simp only [Rows.uptoBulk]; omega
  agg := fun l => by simp only [Rows.uptoBulk]; omega
  str := fun b => by simp only [Rows.uptoBulk]; omega

theorem len_sum {s : Sh} : ∀ l : List s.T, l.length ≤ (l.map fun y => max 1 (szS s y)).sum
  | [] => Nat.le_refl _
  | x :: r => by
    have := len_sum (s := s) r
    simp only [List.length_cons, List.map_cons, List.sum_cons]
    omega

abbrev S4 : Sh := .pr (.sl 8 NI) (.pr NI .nil)
theorem run4 (x : S4.T) (h : Val S4 x) (hN : szS S4 x ≤ 1048576) : ∃ k H', runX Try.prog an k 4 (argsY Try.prog Try.f4.params.toList S4 x) [] = some ([.one (.sc (.bool true))], H') := by
  have hl : x.1.2.length ≤ 1048576 := by
    have := len_sum (s := NI) x.1.2
    simp only [szS] at hN this
    omega
  exact law_of_pure (fn4 false x.1.1 x.1.1 x.1.2 x.2.1 (by omega))
theorem lifted4 (os : Os) (started : os.Started) (H : Type) (enc : TypeId × Value → H) (F : Stop.Interp) :
    ReturnsInHanded {} Try.checked os 4 .any ((Rows.OpenSpec.upto Rows.ringWindowsSpec).pre6 enc Try.prog Try.f4 Rows.ringWindowsUptoRow.domain false) (((Rows.OpenSpec.upto Rows.ringWindowsSpec).at F).post enc Try.prog Try.f4 false true false false) := by
  refine returnsInHanded_of_cond_sized (C := Try.checked) (s := Rows.OpenSpec.upto Rows.ringWindowsSpec) (k := Rows.uptoSmall) rfl own started (by kernel_rfl) Try.func4
    (OpenSpec.witness (enc := enc) (C := Try.checked) (s := Rows.OpenSpec.upto Rows.ringWindowsSpec) (k := Rows.uptoSmall) rfl false ⟨#[], #[.slice none 0 0, .int .i64 0], []⟩ 8 (by kernel_rfl) (by kernel_rfl) (by kernel_rfl)
      (x := ([.nil, .lit (.int .i64 0)], [], [])) (by kernel_rfl) rfl (by kernel_rfl)) ?_
  intro W base args ds gs before hval hW hc hk hw _
  exact law_contract_k laidOut pok aok (S := S4) (by kernel_rfl) (by kernel_rfl) ⟨4, by kernel_rfl, Try.underlying4⟩ rfl
    (fun ds hd => by match ds, hd with | [_, _], _ => rfl) (bulk H) 1048576 run4 W base args ds gs before hval hW hc hw (of_decide_eq_true hk)
theorem over4 : Rows.ringWindowsUptoRow.holds Try.pinned (Rows.OpenSpec.upto Rows.ringWindowsSpec) :=
  OpenClaim.holds_of_cond 4 Try.f4 rfl rfl rfl rfl rfl rfl rfl ⟨rfl, rfl, rfl, rfl, rfl⟩ rfl rfl rfl rfl rfl (by kernel_rfl) Try.func4 (by kernel_rfl)
    (of_decide_eq_true (by kernel_rfl)) (by unfold Func.isWrapper; first | (rw [if_pos (by decide +kernel)]; kernel_rfl) | (rw [if_neg (by decide +kernel)]; exact ⟨rfl, rfl⟩))
    (fun os started H enc _ F => lifted4 os started H enc F)
theorem windows : Rows.RingWindowsUptoSaid := over4
#print axioms windows

end Go.Proofs.Ytpoaaggjgmdpdaa
