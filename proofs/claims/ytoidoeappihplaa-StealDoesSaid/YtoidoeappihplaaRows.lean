/-
  No cell of these rows narrows 'for every input' (looked for: loops, veiled, ifaces, maps, wideKeys, modest, calm, conditions, laid).
  DERIVED. THE GIVEN ROWS OF THIS SEAT. 4 by the template 'for every input the law returns true; each argument reads behind the call as it read before'; 0 by the template 'total and deterministic' (their statements: YtoidoeappihplaaTotals.lean).
  GIVEN WITH THE SEED: the statements are not yours to turn. If you find one false, say at which input.
  Laid BY PROGRAM, IN A SANDBOX (cutbox-rows.mjs): the forced cells as the released guide's own fill.sh prints them over the translation 46398c0d45cb9a70… (all of the seat's roots in one cut). By AI agents, Wed Nov 11 2026. No macro, syntax, notation, axiom, sorry.
-/
import Derived.Test.YtoidoeappihplaaChecked
import GoSem.Claim
import GoSem.ClaimJoined
import GoSem.ClaimMapViews
import Derived.JoinedTies
import Derived.KernelRfl
namespace Go.Proofs.Ytoidoeappihplaa
/- THE CELL 'sum', in the pinned program and in every row, IS THE sha256 OF THE DUMP (.gsa) THAT YtoidoeappihplaaProg.lean LOADS. Nothing in Lean hashes anything: it is a label: what it is worth is what the hold of that sum in a sandbox is worth. -/
noncomputable def Try.pinned : Pinned := { name := "ytoidoeappihplaa", sum := "46398c0d45cb9a707e6545f21eeab5308607c5ff79e3a9e6f26d89b47da37597", checked := Try.checked }
namespace Rows
def none {H : Type} : Left H := { results := [], args := [] }

/-- 'carousellaw19.StealPlans': WHATEVER THE INPUT: true; the input reads as it did. -/
def stealPlansSpec : ChangeSpec := { name := "stealPlans", fn := fun _ => fun
  | [d1, d2] => { results := [.lit (.bool true)], args := [d1, d2] }
  | _ => none }
def stealPlansRow : OpenClaim := { program := "ytoidoeappihplaa", sum := "46398c0d45cb9a707e6545f21eeab5308607c5ff79e3a9e6f26d89b47da37597", func := "carousel/carousellaw19.StealPlans", spec := "stealPlans", plainKeys := false, apart := false }
def StealPlansSaid : Prop := stealPlansRow.holds Try.pinned (OpenSpec.ofChange stealPlansSpec)

/-- ITS FALSE NEIGHBOUR: 'it returns false'. Refute it at one input. -/
def stealPlansWrong : ChangeSpec := { name := "stealPlans", fn := fun _ => fun
  | [d1, d2] => { results := [.lit (.bool false)], args := [d1, d2] }
  | _ => none }
def StealPlansWrongFalsely : Prop := stealPlansRow.holds Try.pinned (OpenSpec.ofChange stealPlansWrong)

/-- 'carousellaw19.StealIdle': WHATEVER THE INPUT: true; the input reads as it did. -/
def stealIdleSpec : ChangeSpec := { name := "stealIdle", fn := fun _ => fun
  | [d1, d2] => { results := [.lit (.bool true)], args := [d1, d2] }
  | _ => none }
def stealIdleRow : OpenClaim := { program := "ytoidoeappihplaa", sum := "46398c0d45cb9a707e6545f21eeab5308607c5ff79e3a9e6f26d89b47da37597", func := "carousel/carousellaw19.StealIdle", spec := "stealIdle", plainKeys := false, apart := false }
def StealIdleSaid : Prop := stealIdleRow.holds Try.pinned (OpenSpec.ofChange stealIdleSpec)

/-- ITS FALSE NEIGHBOUR: 'it returns false'. Refute it at one input. -/
def stealIdleWrong : ChangeSpec := { name := "stealIdle", fn := fun _ => fun
  | [d1, d2] => { results := [.lit (.bool false)], args := [d1, d2] }
  | _ => none }
def StealIdleWrongFalsely : Prop := stealIdleRow.holds Try.pinned (OpenSpec.ofChange stealIdleWrong)

/-- 'carousellaw19.StealDoes': WHATEVER THE INPUT: true; the input reads as it did. -/
def stealDoesSpec : ChangeSpec := { name := "stealDoes", fn := fun _ => fun
  | [d1, d2] => { results := [.lit (.bool true)], args := [d1, d2] }
  | _ => none }
def stealDoesRow : OpenClaim := { program := "ytoidoeappihplaa", sum := "46398c0d45cb9a707e6545f21eeab5308607c5ff79e3a9e6f26d89b47da37597", func := "carousel/carousellaw19.StealDoes", spec := "stealDoes", unfollowed := true, recurses := true, plainKeys := false, apart := false }
def StealDoesSaid : Prop := stealDoesRow.holds Try.pinned (OpenSpec.ofChange stealDoesSpec)

/-- ITS FALSE NEIGHBOUR: 'it returns false'. Refute it at one input. -/
def stealDoesWrong : ChangeSpec := { name := "stealDoes", fn := fun _ => fun
  | [d1, d2] => { results := [.lit (.bool false)], args := [d1, d2] }
  | _ => none }
def StealDoesWrongFalsely : Prop := stealDoesRow.holds Try.pinned (OpenSpec.ofChange stealDoesWrong)

/-- 'carousellaw19.StealKeeps': WHATEVER THE INPUT: true; the input reads as it did. -/
def stealKeepsSpec : ChangeSpec := { name := "stealKeeps", fn := fun _ => fun
  | [d1, d2] => { results := [.lit (.bool true)], args := [d1, d2] }
  | _ => none }
def stealKeepsRow : OpenClaim := { program := "ytoidoeappihplaa", sum := "46398c0d45cb9a707e6545f21eeab5308607c5ff79e3a9e6f26d89b47da37597", func := "carousel/carousellaw19.StealKeeps", spec := "stealKeeps", unfollowed := true, recurses := true, plainKeys := false, apart := false }
def StealKeepsSaid : Prop := stealKeepsRow.holds Try.pinned (OpenSpec.ofChange stealKeepsSpec)

/-- ITS FALSE NEIGHBOUR: 'it returns false'. Refute it at one input. -/
def stealKeepsWrong : ChangeSpec := { name := "stealKeeps", fn := fun _ => fun
  | [d1, d2] => { results := [.lit (.bool false)], args := [d1, d2] }
  | _ => none }
def StealKeepsWrongFalsely : Prop := stealKeepsRow.holds Try.pinned (OpenSpec.ofChange stealKeepsWrong)

/- THE SECOND FORM. 'bulk': how many values and letters a reading holds, each counted each time it is reached (what is shared counts as often as it is met; a slice's spare places count too). A statement '..UptoSaid' is the law's where the arguments, and the package variables that the reading takes, are together of bulk at most 1048576: NARROWER than '..Said'. Prove '..Said' where nothing that the law and all that it calls make is longer than what came in: it says more and counts as full. Else prove '..UptoSaid'. A law counts once. -/
mutual
def uptoBulk {H : Type} : DataW H → Nat
  | .lit (.string bytes) => bytes.length + 1
  | .lit _ => 1
  | .nil => 1
  | .ptr d => uptoBulk d + 1
  | .slice elems spare => uptoBulkAll elems + uptoBulkAll spare + 1
  | .agg parts => uptoBulkAll parts + 1
  | .iface _ d => uptoBulk d + 1
  | .map entries => uptoBulkEntries entries + 1
  | .held _ => 1
def uptoBulkAll {H : Type} : List (DataW H) → Nat
  | [] => 0
  | d :: r => uptoBulk d + uptoBulkAll r
def uptoBulkEntries {H : Type} : List (Lit × DataW H) → Nat
  | [] => 0
  | x :: r => uptoBulkEntry x + uptoBulkEntries r
def uptoBulkEntry {H : Type} : Lit × DataW H → Nat
  | (.string bytes, d) => bytes.length + uptoBulk d + 1
  | (_, d) => uptoBulk d + 1
 end
def uptoSmall : (H : Type) → List (DataW H) → Bool := fun _ ds => decide (uptoBulkAll ds ≤ 1048576)
def OpenSpec.upto (s : _root_.Go.ChangeSpec) : _root_.Go.OpenSpec := { _root_.Go.OpenSpec.ofChange s with cond := some uptoSmall }

/-- 'carousellaw19.StealPlans', WHERE WHAT IT READS IS OF BULK AT MOST 1048576: true; the input reads as it did. -/
def stealPlansUptoRow : OpenClaim := { program := "ytoidoeappihplaa", sum := "46398c0d45cb9a707e6545f21eeab5308607c5ff79e3a9e6f26d89b47da37597", func := "carousel/carousellaw19.StealPlans", spec := "stealPlans", plainKeys := false, apart := false, narrowed := true }
def StealPlansUptoSaid : Prop := stealPlansUptoRow.holds Try.pinned (OpenSpec.upto stealPlansSpec)

/-- 'carousellaw19.StealIdle', WHERE WHAT IT READS IS OF BULK AT MOST 1048576: true; the input reads as it did. -/
def stealIdleUptoRow : OpenClaim := { program := "ytoidoeappihplaa", sum := "46398c0d45cb9a707e6545f21eeab5308607c5ff79e3a9e6f26d89b47da37597", func := "carousel/carousellaw19.StealIdle", spec := "stealIdle", plainKeys := false, apart := false, narrowed := true }
def StealIdleUptoSaid : Prop := stealIdleUptoRow.holds Try.pinned (OpenSpec.upto stealIdleSpec)

/-- 'carousellaw19.StealDoes', WHERE WHAT IT READS IS OF BULK AT MOST 1048576: true; the input reads as it did. -/
def stealDoesUptoRow : OpenClaim := { program := "ytoidoeappihplaa", sum := "46398c0d45cb9a707e6545f21eeab5308607c5ff79e3a9e6f26d89b47da37597", func := "carousel/carousellaw19.StealDoes", spec := "stealDoes", unfollowed := true, recurses := true, plainKeys := false, apart := false, narrowed := true }
def StealDoesUptoSaid : Prop := stealDoesUptoRow.holds Try.pinned (OpenSpec.upto stealDoesSpec)

/-- 'carousellaw19.StealKeeps', WHERE WHAT IT READS IS OF BULK AT MOST 1048576: true; the input reads as it did. -/
def stealKeepsUptoRow : OpenClaim := { program := "ytoidoeappihplaa", sum := "46398c0d45cb9a707e6545f21eeab5308607c5ff79e3a9e6f26d89b47da37597", func := "carousel/carousellaw19.StealKeeps", spec := "stealKeeps", unfollowed := true, recurses := true, plainKeys := false, apart := false, narrowed := true }
def StealKeepsUptoSaid : Prop := stealKeepsUptoRow.holds Try.pinned (OpenSpec.upto stealKeepsSpec)

end Rows
end Go.Proofs.Ytoidoeappihplaa
