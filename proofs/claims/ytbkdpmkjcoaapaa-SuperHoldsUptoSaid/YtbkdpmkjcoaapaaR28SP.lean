/-
 SuperHoldsUpto: for every plan and list of gaps of bulk at most 1,048,576 the law returns true, and the arguments read as before.
-/
import Derived.Test.YtbkdpmkjcoaapaaR28SJ
import Derived.Test.YtbkdpmkjcoaapaaX20
import Derived.Test.YtbkdpmkjcoaapaaRows
import Derived.WalkKit
import Derived.ProofKit
import Derived.JoinedCond
import Derived.Deep.CondSized
namespace Go.Proofs.Ytbkdpmkjcoaapaa
open Go.Lg
set_option maxRecDepth 100000
theorem own : ownKnob Try.prog.godebug = none := by kernel_rfl
theorem laidOut : laidOutB Try.prog = true := by kernel_rfl
theorem pok : POk Try.prog := pOk_of (by kernel_rfl)
theorem aok : AnnOk Try.prog an := annOk_of (by kernel_rfl)
/-- The rows' own way to count is a way to count. -/
def bulk (H : Type) : Bulk H where
 one := Rows.uptoBulk
 all := Rows.uptoBulkAll
 pos := fun d => by unfold Rows.uptoBulk; split <;> omega
 nil := by simp only [Rows.uptoBulkAll]
 cons := fun d r => by simp only [Rows.uptoBulkAll]
 slice := fun a b => by simp only [Rows.uptoBulk]; omega
 agg := fun l => by simp only [Rows.uptoBulk]; omega
 str := fun b => by simp only [Rows.uptoBulk]; omega
theorem len_sum {s : Sh} : ∀ l : List s.T, l.length ≤ (l.map fun y => max 1 (szS s y)).sum
 | [] => Nat.le_refl _
 | x :: r => by
  have := len_sum (s := s) r
  simp only [en_, List.map_cons, List.sum_cons]
  omega
theorem law_all (r tk : Int) (gn : Bool) (gl : List Int) (hl : (gl.length : Int) ≤ 1048576) : PureC pg an 3 [.one (vi r), .one (vi tk), .one (sv NI false gn gn gl)] [.one (vb true)] := by
 by_cases hb : r < 0 ∨ 64 < r ∨ tk < 1 ∨ 1048576 < tk
 ·exact law_bad r tk gn gl hb
 ·exact law_good r tk gn gl (by omega) (by omega) (by omega) (by omega) hl
abbrev S3 : Sh := .pr NI (.pr NI (.pr (.sl 8 NI) .nil))
theorem run3 (x : S3.T) (h : Val S3 x) (hN : szS S3 x ≤ 1048576) : ∃ k H', runX Try.prog an k 3 (argsY Try.prog Try.f3.params.toList S3 x) [] = some ([.one (.sc (.bool true))], H') := by
 have hl : x.2.2.1.2.length ≤ 1048576 := by
  have := len_sum (s := NI) x.2.2.1.2
  simp only [szS] at hN this
  omega
 exact law_of_pure (law_all x.1 x.2.1 x.2.2.1.1 x.2.2.1.2 (by omega))
theorem lifted3 (os : Os) (started : os.Started) (H : Type) (enc : TypeId × Value → H) (F : Stop.Interp) :
  ReturnsInHanded {} Try.checked os 3 .any ((Rows.OpenSpec.upto Rows.superHoldsSpec).pre6 enc Try.prog Try.f3 Rows.superHoldsUptoRow.domain false) (((Rows.OpenSpec.upto Rows.superHoldsSpec).at F).post enc Try.prog Try.f3 false true false false) := by
 refine returnsInHanded_of_cond_sized (C := Try.checked) (s := Rows.OpenSpec.upto Rows.superHoldsSpec) (k := Rows.uptoSmall) rfl own started (by kernel_rfl) Try.func3
  (OpenSpec.witness (enc := enc) (C := Try.checked) (s := Rows.OpenSpec.upto Rows.superHoldsSpec) (k := Rows.uptoSmall) rfl false ⟨#[], #[.int .i64 0, .int .i64 0, .slice none 0 0], []⟩ 8 (by kernel_rfl) (by kernel_rfl) (by kernel_rfl)
   (x := ([.lit (.int .i64 0), .lit (.int .i64 0), .nil], [], [])) (by kernel_rfl) rfl (by kernel_rfl)) ?_
 intro W base args ds gs before hval hW hc hk hw _
 exact law_contract_k laidOut pok aok (S := S3) (by kernel_rfl) (by kernel_rfl) ⟨4, by kernel_rfl, Try.underlying4⟩ rfl
  (fun ds hd => by match ds, hd with | [_, _, _], _ => rfl) (bulk H) 1048576 run3 W base args ds gs before hval hW hc hw (of_decide_eq_true hk)
theorem over3 : Rows.superHoldsUptoRow.holds Try.pinned (Rows.OpenSpec.upto Rows.superHoldsSpec) :=
 OpenClaim.holds_of_cond 3 Try.f3 rfl rfl rfl rfl rfl rfl rfl ⟨rfl, rfl, rfl, rfl, rfl⟩ rfl rfl rfl rfl rfl (by kernel_rfl) Try.func3 (by kernel_rfl)
  (of_decide_eq_true (by kernel_rfl)) (by unfold Func.isWrapper; first | (rw [if_pos (by decide +kernel)]; kernel_rfl) | (rw [if_neg (by decide +kernel)]; exact ⟨rfl, rfl⟩))
  (fun os started H enc _ F => lifted3 os started H enc F)
theorem holds_upto : Rows.SuperHoldsUptoSaid := over3
#print axioms holds_upto
end Go.Proofs.Ytbkdpmkjcoaapaa
