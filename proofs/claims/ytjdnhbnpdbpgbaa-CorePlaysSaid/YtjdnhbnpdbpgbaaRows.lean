/-
  No cell of these rows narrows 'for every input' (looked for: loops, veiled, ifaces, maps, wideKeys, modest, calm, conditions, laid).
  DERIVED. THE GIVEN ROWS OF THIS SEAT. 4 by the template 'for every input the law returns true; each argument reads behind the call as it read before'; 0 by the template 'total and deterministic' (their statements: YtjdnhbnpdbpgbaaTotals.lean).
  GIVEN WITH THE SEED: the statements are not yours to turn. If you find one false, say at which input.
  Laid BY PROGRAM, IN A SANDBOX (cutbox-rows.mjs): the forced cells as the released guide's own fill.sh prints them over the translation 2d046ff5c5639e46… (all of the seat's roots in one cut). By AI agents, Wed Nov 11 2026. No macro, syntax, notation, axiom, sorry.
-/
import Derived.Test.YtjdnhbnpdbpgbaaChecked
import GoSem.Claim
import GoSem.ClaimJoined
import GoSem.ClaimMapViews
import Derived.JoinedTies
import Derived.KernelRfl
namespace Go.Proofs.Ytjdnhbnpdbpgbaa
/- THE CELL 'sum', in the pinned program and in every row, IS THE sha256 OF THE DUMP (.gsa) THAT YtjdnhbnpdbpgbaaProg.lean LOADS. Nothing in Lean hashes anything: it is a label: what it is worth is what the hold of that sum in a sandbox is worth. -/
noncomputable def Try.pinned : Pinned := { name := "ytjdnhbnpdbpgbaa", sum := "2d046ff5c5639e46935bb8291ca40bfe80b0a0f40e71d257bf95408b6aa0117c", checked := Try.checked }
namespace Rows
def none {H : Type} : Left H := { results := [], args := [] }

/-- 'carousellaw18.CoreLoads': WHATEVER THE INPUT: true; the input reads as it did. -/
def coreLoadsSpec : ChangeSpec := { name := "coreLoads", fn := fun _ => fun
  | [d1, d2, d3] => { results := [.lit (.bool true)], args := [d1, d2, d3] }
  | _ => none }
def coreLoadsRow : OpenClaim := { program := "ytjdnhbnpdbpgbaa", sum := "2d046ff5c5639e46935bb8291ca40bfe80b0a0f40e71d257bf95408b6aa0117c", func := "carousel/carousellaw18.CoreLoads", spec := "coreLoads", unfollowed := true, recurses := true, plainKeys := false, apart := false }
def CoreLoadsSaid : Prop := coreLoadsRow.holds Try.pinned (OpenSpec.ofChange coreLoadsSpec)

/-- ITS FALSE NEIGHBOUR: 'it returns false'. Refute it at one input. -/
def coreLoadsWrong : ChangeSpec := { name := "coreLoads", fn := fun _ => fun
  | [d1, d2, d3] => { results := [.lit (.bool false)], args := [d1, d2, d3] }
  | _ => none }
def CoreLoadsWrongFalsely : Prop := coreLoadsRow.holds Try.pinned (OpenSpec.ofChange coreLoadsWrong)

/-- 'carousellaw18.CoreServes': WHATEVER THE INPUT: true; the input reads as it did. -/
def coreServesSpec : ChangeSpec := { name := "coreServes", fn := fun _ => fun
  | [d1, d2, d3, d4] => { results := [.lit (.bool true)], args := [d1, d2, d3, d4] }
  | _ => none }
def coreServesRow : OpenClaim := { program := "ytjdnhbnpdbpgbaa", sum := "2d046ff5c5639e46935bb8291ca40bfe80b0a0f40e71d257bf95408b6aa0117c", func := "carousel/carousellaw18.CoreServes", spec := "coreServes", unfollowed := true, recurses := true, plainKeys := false, apart := false }
def CoreServesSaid : Prop := coreServesRow.holds Try.pinned (OpenSpec.ofChange coreServesSpec)

/-- ITS FALSE NEIGHBOUR: 'it returns false'. Refute it at one input. -/
def coreServesWrong : ChangeSpec := { name := "coreServes", fn := fun _ => fun
  | [d1, d2, d3, d4] => { results := [.lit (.bool false)], args := [d1, d2, d3, d4] }
  | _ => none }
def CoreServesWrongFalsely : Prop := coreServesRow.holds Try.pinned (OpenSpec.ofChange coreServesWrong)

/-- 'carousellaw18.CoreOrder': WHATEVER THE INPUT: true; the input reads as it did. -/
def coreOrderSpec : ChangeSpec := { name := "coreOrder", fn := fun _ => fun
  | [d1, d2, d3] => { results := [.lit (.bool true)], args := [d1, d2, d3] }
  | _ => none }
def coreOrderRow : OpenClaim := { program := "ytjdnhbnpdbpgbaa", sum := "2d046ff5c5639e46935bb8291ca40bfe80b0a0f40e71d257bf95408b6aa0117c", func := "carousel/carousellaw18.CoreOrder", spec := "coreOrder", unfollowed := true, recurses := true, plainKeys := false, apart := false }
def CoreOrderSaid : Prop := coreOrderRow.holds Try.pinned (OpenSpec.ofChange coreOrderSpec)

/-- ITS FALSE NEIGHBOUR: 'it returns false'. Refute it at one input. -/
def coreOrderWrong : ChangeSpec := { name := "coreOrder", fn := fun _ => fun
  | [d1, d2, d3] => { results := [.lit (.bool false)], args := [d1, d2, d3] }
  | _ => none }
def CoreOrderWrongFalsely : Prop := coreOrderRow.holds Try.pinned (OpenSpec.ofChange coreOrderWrong)

/-- 'carousellaw18.CorePlays': WHATEVER THE INPUT: true; the input reads as it did. -/
def corePlaysSpec : ChangeSpec := { name := "corePlays", fn := fun _ => fun
  | [d] => { results := [.lit (.bool true)], args := [d] }
  | _ => none }
def corePlaysRow : OpenClaim := { program := "ytjdnhbnpdbpgbaa", sum := "2d046ff5c5639e46935bb8291ca40bfe80b0a0f40e71d257bf95408b6aa0117c", func := "carousel/carousellaw18.CorePlays", spec := "corePlays", unfollowed := true, recurses := true, plainKeys := false, apart := false }
def CorePlaysSaid : Prop := corePlaysRow.holds Try.pinned (OpenSpec.ofChange corePlaysSpec)

/-- ITS FALSE NEIGHBOUR: 'it returns false'. Refute it at one input. -/
def corePlaysWrong : ChangeSpec := { name := "corePlays", fn := fun _ => fun
  | [d] => { results := [.lit (.bool false)], args := [d] }
  | _ => none }
def CorePlaysWrongFalsely : Prop := corePlaysRow.holds Try.pinned (OpenSpec.ofChange corePlaysWrong)

/- THE SECOND FORM. 'bulk': how many values and letters a reading holds, each counted each time it is reached (what is shared counts as often as it is met; a slice's spare places count too). A statement '..UptoSaid' is the law's where the arguments, and the package variables that the reading takes, are together of bulk at most 1048576: NARROWER than '..Said'. Prove '..Said' where nothing that the law and all that it calls make is longer than what came in: it says more and counts as full. Else prove '..UptoSaid'. A law counts once. -/
mutual
def uptoBulk {H : Type} : DataW H → Nat
  | .lit (.string bytes) => bytes.length + 1
  | .lit _ => 1
  | .nil => 1
  | .ptr d => uptoBulk d + 1
  | .slice elems spare => uptoBulkAll elems + uptoBulkAll spare + 1
  | .agg parts => uptoBulkAll parts + 1
  | .iface _ d => uptoBulk d + 1
  | .map entries => uptoBulkEntries entries + 1
  | .held _ => 1
def uptoBulkAll {H : Type} : List (DataW H) → Nat
  | [] => 0
  | d :: r => uptoBulk d + uptoBulkAll r
def uptoBulkEntries {H : Type} : List (Lit × DataW H) → Nat
  | [] => 0
  | x :: r => uptoBulkEntry x + uptoBulkEntries r
def uptoBulkEntry {H : Type} : Lit × DataW H → Nat
  | (.string bytes, d) => bytes.length + uptoBulk d + 1
  | (_, d) => uptoBulk d + 1
 end
def uptoSmall : (H : Type) → List (DataW H) → Bool := fun _ ds => decide (uptoBulkAll ds ≤ 1048576)
def OpenSpec.upto (s : _root_.Go.ChangeSpec) : _root_.Go.OpenSpec := { _root_.Go.OpenSpec.ofChange s with cond := some uptoSmall }

/-- 'carousellaw18.CoreLoads', WHERE WHAT IT READS IS OF BULK AT MOST 1048576: true; the input reads as it did. -/
def coreLoadsUptoRow : OpenClaim := { program := "ytjdnhbnpdbpgbaa", sum := "2d046ff5c5639e46935bb8291ca40bfe80b0a0f40e71d257bf95408b6aa0117c", func := "carousel/carousellaw18.CoreLoads", spec := "coreLoads", unfollowed := true, recurses := true, plainKeys := false, apart := false, narrowed := true }
def CoreLoadsUptoSaid : Prop := coreLoadsUptoRow.holds Try.pinned (OpenSpec.upto coreLoadsSpec)

/-- 'carousellaw18.CoreServes', WHERE WHAT IT READS IS OF BULK AT MOST 1048576: true; the input reads as it did. -/
def coreServesUptoRow : OpenClaim := { program := "ytjdnhbnpdbpgbaa", sum := "2d046ff5c5639e46935bb8291ca40bfe80b0a0f40e71d257bf95408b6aa0117c", func := "carousel/carousellaw18.CoreServes", spec := "coreServes", unfollowed := true, recurses := true, plainKeys := false, apart := false, narrowed := true }
def CoreServesUptoSaid : Prop := coreServesUptoRow.holds Try.pinned (OpenSpec.upto coreServesSpec)

/-- 'carousellaw18.CoreOrder', WHERE WHAT IT READS IS OF BULK AT MOST 1048576: true; the input reads as it did. -/
def coreOrderUptoRow : OpenClaim := { program := "ytjdnhbnpdbpgbaa", sum := "2d046ff5c5639e46935bb8291ca40bfe80b0a0f40e71d257bf95408b6aa0117c", func := "carousel/carousellaw18.CoreOrder", spec := "coreOrder", unfollowed := true, recurses := true, plainKeys := false, apart := false, narrowed := true }
def CoreOrderUptoSaid : Prop := coreOrderUptoRow.holds Try.pinned (OpenSpec.upto coreOrderSpec)

/-- 'carousellaw18.CorePlays', WHERE WHAT IT READS IS OF BULK AT MOST 1048576: true; the input reads as it did. -/
def corePlaysUptoRow : OpenClaim := { program := "ytjdnhbnpdbpgbaa", sum := "2d046ff5c5639e46935bb8291ca40bfe80b0a0f40e71d257bf95408b6aa0117c", func := "carousel/carousellaw18.CorePlays", spec := "corePlays", unfollowed := true, recurses := true, plainKeys := false, apart := false, narrowed := true }
def CorePlaysUptoSaid : Prop := corePlaysUptoRow.holds Try.pinned (OpenSpec.upto corePlaysSpec)

end Rows
end Go.Proofs.Ytjdnhbnpdbpgbaa
