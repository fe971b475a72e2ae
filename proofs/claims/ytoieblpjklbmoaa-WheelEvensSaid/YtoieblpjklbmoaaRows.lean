/-
  No cell of these rows narrows 'for every input' (looked for: loops, veiled, ifaces, maps, wideKeys, modest, calm, conditions, laid).
  DERIVED. THE GIVEN ROWS OF THIS SEAT. 7 by the template 'for every input the law returns true; each argument reads behind the call as it read before'; 0 by the template 'total and deterministic' (their statements: YtoieblpjklbmoaaTotals.lean).
  GIVEN WITH THE SEED: the statements are not yours to turn. If you find one false, say at which input.
  Laid BY PROGRAM, IN A SANDBOX (cutbox-rows.mjs): the forced cells as the released guide's own fill.sh prints them over the translation ae18b83f69f49165… (all of the seat's roots in one cut). By AI agents, Wed Nov 11 2026. No macro, syntax, notation, axiom, sorry.
-/
import Derived.Test.YtoieblpjklbmoaaChecked
import GoSem.Claim
import GoSem.ClaimJoined
import GoSem.ClaimMapViews
import Derived.JoinedTies
import Derived.KernelRfl
namespace Go.Proofs.Ytoieblpjklbmoaa
/- THE CELL 'sum', in the pinned program and in every row, IS THE sha256 OF THE DUMP (.gsa) THAT YtoieblpjklbmoaaProg.lean LOADS. Nothing in Lean hashes anything: it is a label: what it is worth is what the hold of that sum in a sandbox is worth. -/
noncomputable def Try.pinned : Pinned := { name := "ytoieblpjklbmoaa", sum := "ae18b83f69f49165702747f64c28e66b77af340d9222ffb1ae3b6b8f9495d79b", checked := Try.checked }
namespace Rows
def none {H : Type} : Left H := { results := [], args := [] }

/-- 'carousellaw02.WheelNexts': WHATEVER THE INPUT: true; the input reads as it did. -/
def wheelNextsSpec : ChangeSpec := { name := "wheelNexts", fn := fun _ => fun
  | [d1, d2, d3] => { results := [.lit (.bool true)], args := [d1, d2, d3] }
  | _ => none }
def wheelNextsRow : OpenClaim := { program := "ytoieblpjklbmoaa", sum := "ae18b83f69f49165702747f64c28e66b77af340d9222ffb1ae3b6b8f9495d79b", func := "carousel/carousellaw02.WheelNexts", spec := "wheelNexts", apart := false }
def WheelNextsSaid : Prop := wheelNextsRow.holds Try.pinned (OpenSpec.ofChange wheelNextsSpec)

/-- ITS FALSE NEIGHBOUR: 'it returns false'. Refute it at one input. -/
def wheelNextsWrong : ChangeSpec := { name := "wheelNexts", fn := fun _ => fun
  | [d1, d2, d3] => { results := [.lit (.bool false)], args := [d1, d2, d3] }
  | _ => none }
def WheelNextsWrongFalsely : Prop := wheelNextsRow.holds Try.pinned (OpenSpec.ofChange wheelNextsWrong)

/-- 'carousellaw02.WheelEvens': WHATEVER THE INPUT: true; the input reads as it did. -/
def wheelEvensSpec : ChangeSpec := { name := "wheelEvens", fn := fun _ => fun
  | [d] => { results := [.lit (.bool true)], args := [d] }
  | _ => none }
def wheelEvensRow : OpenClaim := { program := "ytoieblpjklbmoaa", sum := "ae18b83f69f49165702747f64c28e66b77af340d9222ffb1ae3b6b8f9495d79b", func := "carousel/carousellaw02.WheelEvens", spec := "wheelEvens", apart := false }
def WheelEvensSaid : Prop := wheelEvensRow.holds Try.pinned (OpenSpec.ofChange wheelEvensSpec)

/-- ITS FALSE NEIGHBOUR: 'it returns false'. Refute it at one input. -/
def wheelEvensWrong : ChangeSpec := { name := "wheelEvens", fn := fun _ => fun
  | [d] => { results := [.lit (.bool false)], args := [d] }
  | _ => none }
def WheelEvensWrongFalsely : Prop := wheelEvensRow.holds Try.pinned (OpenSpec.ofChange wheelEvensWrong)

/-- 'carousellaw02.WheelServes': WHATEVER THE INPUT: true; the input reads as it did. -/
def wheelServesSpec : ChangeSpec := { name := "wheelServes", fn := fun _ => fun
  | [d1, d2, d3, d4] => { results := [.lit (.bool true)], args := [d1, d2, d3, d4] }
  | _ => none }
def wheelServesRow : OpenClaim := { program := "ytoieblpjklbmoaa", sum := "ae18b83f69f49165702747f64c28e66b77af340d9222ffb1ae3b6b8f9495d79b", func := "carousel/carousellaw02.WheelServes", spec := "wheelServes", apart := false }
def WheelServesSaid : Prop := wheelServesRow.holds Try.pinned (OpenSpec.ofChange wheelServesSpec)

/-- ITS FALSE NEIGHBOUR: 'it returns false'. Refute it at one input. -/
def wheelServesWrong : ChangeSpec := { name := "wheelServes", fn := fun _ => fun
  | [d1, d2, d3, d4] => { results := [.lit (.bool false)], args := [d1, d2, d3, d4] }
  | _ => none }
def WheelServesWrongFalsely : Prop := wheelServesRow.holds Try.pinned (OpenSpec.ofChange wheelServesWrong)

/-- 'carousellaw02.WheelWaits': WHATEVER THE INPUT: true; the input reads as it did. -/
def wheelWaitsSpec : ChangeSpec := { name := "wheelWaits", fn := fun _ => fun
  | [d1, d2] => { results := [.lit (.bool true)], args := [d1, d2] }
  | _ => none }
def wheelWaitsRow : OpenClaim := { program := "ytoieblpjklbmoaa", sum := "ae18b83f69f49165702747f64c28e66b77af340d9222ffb1ae3b6b8f9495d79b", func := "carousel/carousellaw02.WheelWaits", spec := "wheelWaits", apart := false }
def WheelWaitsSaid : Prop := wheelWaitsRow.holds Try.pinned (OpenSpec.ofChange wheelWaitsSpec)

/-- ITS FALSE NEIGHBOUR: 'it returns false'. Refute it at one input. -/
def wheelWaitsWrong : ChangeSpec := { name := "wheelWaits", fn := fun _ => fun
  | [d1, d2] => { results := [.lit (.bool false)], args := [d1, d2] }
  | _ => none }
def WheelWaitsWrongFalsely : Prop := wheelWaitsRow.holds Try.pinned (OpenSpec.ofChange wheelWaitsWrong)

/-- 'carousellaw02.WheelEven': WHATEVER THE INPUT: true; the input reads as it did. -/
def wheelEvenSpec : ChangeSpec := { name := "wheelEven", fn := fun _ => fun
  | [d] => { results := [.lit (.bool true)], args := [d] }
  | _ => none }
def wheelEvenRow : OpenClaim := { program := "ytoieblpjklbmoaa", sum := "ae18b83f69f49165702747f64c28e66b77af340d9222ffb1ae3b6b8f9495d79b", func := "carousel/carousellaw02.WheelEven", spec := "wheelEven", apart := false }
def WheelEvenSaid : Prop := wheelEvenRow.holds Try.pinned (OpenSpec.ofChange wheelEvenSpec)

/-- ITS FALSE NEIGHBOUR: 'it returns false'. Refute it at one input. -/
def wheelEvenWrong : ChangeSpec := { name := "wheelEven", fn := fun _ => fun
  | [d] => { results := [.lit (.bool false)], args := [d] }
  | _ => none }
def WheelEvenWrongFalsely : Prop := wheelEvenRow.holds Try.pinned (OpenSpec.ofChange wheelEvenWrong)

/-- 'carousellaw02.WheelGaps': WHATEVER THE INPUT: true; the input reads as it did. -/
def wheelGapsSpec : ChangeSpec := { name := "wheelGaps", fn := fun _ => fun
  | [d1, d2, d3] => { results := [.lit (.bool true)], args := [d1, d2, d3] }
  | _ => none }
def wheelGapsRow : OpenClaim := { program := "ytoieblpjklbmoaa", sum := "ae18b83f69f49165702747f64c28e66b77af340d9222ffb1ae3b6b8f9495d79b", func := "carousel/carousellaw02.WheelGaps", spec := "wheelGaps", apart := false }
def WheelGapsSaid : Prop := wheelGapsRow.holds Try.pinned (OpenSpec.ofChange wheelGapsSpec)

/-- ITS FALSE NEIGHBOUR: 'it returns false'. Refute it at one input. -/
def wheelGapsWrong : ChangeSpec := { name := "wheelGaps", fn := fun _ => fun
  | [d1, d2, d3] => { results := [.lit (.bool false)], args := [d1, d2, d3] }
  | _ => none }
def WheelGapsWrongFalsely : Prop := wheelGapsRow.holds Try.pinned (OpenSpec.ofChange wheelGapsWrong)

/-- 'carousellaw02.WheelAdds': WHATEVER THE INPUT: true; the input reads as it did. -/
def wheelAddsSpec : ChangeSpec := { name := "wheelAdds", fn := fun _ => fun
  | [d1, d2, d3, d4] => { results := [.lit (.bool true)], args := [d1, d2, d3, d4] }
  | _ => none }
def wheelAddsRow : OpenClaim := { program := "ytoieblpjklbmoaa", sum := "ae18b83f69f49165702747f64c28e66b77af340d9222ffb1ae3b6b8f9495d79b", func := "carousel/carousellaw02.WheelAdds", spec := "wheelAdds", apart := false }
def WheelAddsSaid : Prop := wheelAddsRow.holds Try.pinned (OpenSpec.ofChange wheelAddsSpec)

/-- ITS FALSE NEIGHBOUR: 'it returns false'. Refute it at one input. -/
def wheelAddsWrong : ChangeSpec := { name := "wheelAdds", fn := fun _ => fun
  | [d1, d2, d3, d4] => { results := [.lit (.bool false)], args := [d1, d2, d3, d4] }
  | _ => none }
def WheelAddsWrongFalsely : Prop := wheelAddsRow.holds Try.pinned (OpenSpec.ofChange wheelAddsWrong)

/- THE SECOND FORM. 'bulk': how many values and letters a reading holds, each counted each time it is reached (what is shared counts as often as it is met; a slice's spare places count too). A statement '..UptoSaid' is the law's where the arguments, and the package variables that the reading takes, are together of bulk at most 1048576: NARROWER than '..Said'. Prove '..Said' where nothing that the law and all that it calls make is longer than what came in: it says more and counts as full. Else prove '..UptoSaid'. A law counts once. -/
mutual
def uptoBulk {H : Type} : DataW H → Nat
  | .lit (.string bytes) => bytes.length + 1
  | .lit _ => 1
  | .nil => 1
  | .ptr d => uptoBulk d + 1
  | .slice elems spare => uptoBulkAll elems + uptoBulkAll spare + 1
  | .agg parts => uptoBulkAll parts + 1
  | .iface _ d => uptoBulk d + 1
  | .map entries => uptoBulkEntries entries + 1
  | .held _ => 1
def uptoBulkAll {H : Type} : List (DataW H) → Nat
  | [] => 0
  | d :: r => uptoBulk d + uptoBulkAll r
def uptoBulkEntries {H : Type} : List (Lit × DataW H) → Nat
  | [] => 0
  | x :: r => uptoBulkEntry x + uptoBulkEntries r
def uptoBulkEntry {H : Type} : Lit × DataW H → Nat
  | (.string bytes, d) => bytes.length + uptoBulk d + 1
  | (_, d) => uptoBulk d + 1
 end
def uptoSmall : (H : Type) → List (DataW H) → Bool := fun _ ds => decide (uptoBulkAll ds ≤ 1048576)
def OpenSpec.upto (s : _root_.Go.ChangeSpec) : _root_.Go.OpenSpec := { _root_.Go.OpenSpec.ofChange s with cond := some uptoSmall }

/-- 'carousellaw02.WheelNexts', WHERE WHAT IT READS IS OF BULK AT MOST 1048576: true; the input reads as it did. -/
def wheelNextsUptoRow : OpenClaim := { program := "ytoieblpjklbmoaa", sum := "ae18b83f69f49165702747f64c28e66b77af340d9222ffb1ae3b6b8f9495d79b", func := "carousel/carousellaw02.WheelNexts", spec := "wheelNexts", apart := false, narrowed := true }
def WheelNextsUptoSaid : Prop := wheelNextsUptoRow.holds Try.pinned (OpenSpec.upto wheelNextsSpec)

/-- 'carousellaw02.WheelEvens', WHERE WHAT IT READS IS OF BULK AT MOST 1048576: true; the input reads as it did. -/
def wheelEvensUptoRow : OpenClaim := { program := "ytoieblpjklbmoaa", sum := "ae18b83f69f49165702747f64c28e66b77af340d9222ffb1ae3b6b8f9495d79b", func := "carousel/carousellaw02.WheelEvens", spec := "wheelEvens", apart := false, narrowed := true }
def WheelEvensUptoSaid : Prop := wheelEvensUptoRow.holds Try.pinned (OpenSpec.upto wheelEvensSpec)

/-- 'carousellaw02.WheelServes', WHERE WHAT IT READS IS OF BULK AT MOST 1048576: true; the input reads as it did. -/
def wheelServesUptoRow : OpenClaim := { program := "ytoieblpjklbmoaa", sum := "ae18b83f69f49165702747f64c28e66b77af340d9222ffb1ae3b6b8f9495d79b", func := "carousel/carousellaw02.WheelServes", spec := "wheelServes", apart := false, narrowed := true }
def WheelServesUptoSaid : Prop := wheelServesUptoRow.holds Try.pinned (OpenSpec.upto wheelServesSpec)

/-- 'carousellaw02.WheelWaits', WHERE WHAT IT READS IS OF BULK AT MOST 1048576: true; the input reads as it did. -/
def wheelWaitsUptoRow : OpenClaim := { program := "ytoieblpjklbmoaa", sum := "ae18b83f69f49165702747f64c28e66b77af340d9222ffb1ae3b6b8f9495d79b", func := "carousel/carousellaw02.WheelWaits", spec := "wheelWaits", apart := false, narrowed := true }
def WheelWaitsUptoSaid : Prop := wheelWaitsUptoRow.holds Try.pinned (OpenSpec.upto wheelWaitsSpec)

/-- 'carousellaw02.WheelEven', WHERE WHAT IT READS IS OF BULK AT MOST 1048576: true; the input reads as it did. -/
def wheelEvenUptoRow : OpenClaim := { program := "ytoieblpjklbmoaa", sum := "ae18b83f69f49165702747f64c28e66b77af340d9222ffb1ae3b6b8f9495d79b", func := "carousel/carousellaw02.WheelEven", spec := "wheelEven", apart := false, narrowed := true }
def WheelEvenUptoSaid : Prop := wheelEvenUptoRow.holds Try.pinned (OpenSpec.upto wheelEvenSpec)

/-- 'carousellaw02.WheelGaps', WHERE WHAT IT READS IS OF BULK AT MOST 1048576: true; the input reads as it did. -/
def wheelGapsUptoRow : OpenClaim := { program := "ytoieblpjklbmoaa", sum := "ae18b83f69f49165702747f64c28e66b77af340d9222ffb1ae3b6b8f9495d79b", func := "carousel/carousellaw02.WheelGaps", spec := "wheelGaps", apart := false, narrowed := true }
def WheelGapsUptoSaid : Prop := wheelGapsUptoRow.holds Try.pinned (OpenSpec.upto wheelGapsSpec)

/-- 'carousellaw02.WheelAdds', WHERE WHAT IT READS IS OF BULK AT MOST 1048576: true; the input reads as it did. -/
def wheelAddsUptoRow : OpenClaim := { program := "ytoieblpjklbmoaa", sum := "ae18b83f69f49165702747f64c28e66b77af340d9222ffb1ae3b6b8f9495d79b", func := "carousel/carousellaw02.WheelAdds", spec := "wheelAdds", apart := false, narrowed := true }
def WheelAddsUptoSaid : Prop := wheelAddsUptoRow.holds Try.pinned (OpenSpec.upto wheelAddsSpec)

end Rows
end Go.Proofs.Ytoieblpjklbmoaa
