/-
  No cell of these rows narrows 'for every input' (looked for: loops, veiled, ifaces, maps, wideKeys, modest, calm, conditions, laid).
  DERIVED. THE GIVEN ROWS OF THIS SEAT. 4 by the template 'for every input the law returns true; each argument reads behind the call as it read before'; 0 by the template 'total and deterministic' (their statements: YtjhgjbagmkiibaaTotals.lean).
  GIVEN WITH THE SEED: the statements are not yours to turn. If you find one false, say at which input.
  Laid BY PROGRAM, IN A SANDBOX (cutbox-rows.mjs): the forced cells as the released guide's own fill.sh prints them over the translation bdb7249e8df8077a… (all of the seat's roots in one cut). By AI agents, Wed Nov 11 2026. No macro, syntax, notation, axiom, sorry.
-/
import Derived.Test.YtjhgjbagmkiibaaChecked
import GoSem.Claim
import GoSem.ClaimJoined
import GoSem.ClaimMapViews
import Derived.JoinedTies
import Derived.KernelRfl
namespace Go.Proofs.Ytjhgjbagmkiibaa
/- THE CELL 'sum', in the pinned program and in every row, IS THE sha256 OF THE DUMP (.gsa) THAT YtjhgjbagmkiibaaProg.lean LOADS. Nothing in Lean hashes anything: it is a label: what it is worth is what the hold of that sum in a sandbox is worth. -/
noncomputable def Try.pinned : Pinned := { name := "ytjhgjbagmkiibaa", sum := "bdb7249e8df8077a0d4322b43fad7f02c3ae6bc87472da0c54a5f6a9527489f4", checked := Try.checked }
namespace Rows
def none {H : Type} : Left H := { results := [], args := [] }

/-- 'carousellaw15.TieBoth': WHATEVER THE INPUT: true; the input reads as it did. -/
def tieBothSpec : ChangeSpec := { name := "tieBoth", fn := fun _ => fun
  | [d1, d2] => { results := [.lit (.bool true)], args := [d1, d2] }
  | _ => none }
def tieBothRow : OpenClaim := { program := "ytjhgjbagmkiibaa", sum := "bdb7249e8df8077a0d4322b43fad7f02c3ae6bc87472da0c54a5f6a9527489f4", func := "carousel/carousellaw15.TieBoth", spec := "tieBoth", unfollowed := true, recurses := true, plainKeys := false, apart := false }
def TieBothSaid : Prop := tieBothRow.holds Try.pinned (OpenSpec.ofChange tieBothSpec)

/-- ITS FALSE NEIGHBOUR: 'it returns false'. Refute it at one input. -/
def tieBothWrong : ChangeSpec := { name := "tieBoth", fn := fun _ => fun
  | [d1, d2] => { results := [.lit (.bool false)], args := [d1, d2] }
  | _ => none }
def TieBothWrongFalsely : Prop := tieBothRow.holds Try.pinned (OpenSpec.ofChange tieBothWrong)

/-- 'carousellaw15.TieLoads': WHATEVER THE INPUT: true; the input reads as it did. -/
def tieLoadsSpec : ChangeSpec := { name := "tieLoads", fn := fun _ => fun
  | [d] => { results := [.lit (.bool true)], args := [d] }
  | _ => none }
def tieLoadsRow : OpenClaim := { program := "ytjhgjbagmkiibaa", sum := "bdb7249e8df8077a0d4322b43fad7f02c3ae6bc87472da0c54a5f6a9527489f4", func := "carousel/carousellaw15.TieLoads", spec := "tieLoads", unfollowed := true, recurses := true, plainKeys := false, apart := false }
def TieLoadsSaid : Prop := tieLoadsRow.holds Try.pinned (OpenSpec.ofChange tieLoadsSpec)

/-- ITS FALSE NEIGHBOUR: 'it returns false'. Refute it at one input. -/
def tieLoadsWrong : ChangeSpec := { name := "tieLoads", fn := fun _ => fun
  | [d] => { results := [.lit (.bool false)], args := [d] }
  | _ => none }
def TieLoadsWrongFalsely : Prop := tieLoadsRow.holds Try.pinned (OpenSpec.ofChange tieLoadsWrong)

/-- 'carousellaw15.TiePlays': WHATEVER THE INPUT: true; the input reads as it did. -/
def tiePlaysSpec : ChangeSpec := { name := "tiePlays", fn := fun _ => fun
  | [d] => { results := [.lit (.bool true)], args := [d] }
  | _ => none }
def tiePlaysRow : OpenClaim := { program := "ytjhgjbagmkiibaa", sum := "bdb7249e8df8077a0d4322b43fad7f02c3ae6bc87472da0c54a5f6a9527489f4", func := "carousel/carousellaw15.TiePlays", spec := "tiePlays", unfollowed := true, recurses := true, plainKeys := false, apart := false }
def TiePlaysSaid : Prop := tiePlaysRow.holds Try.pinned (OpenSpec.ofChange tiePlaysSpec)

/-- ITS FALSE NEIGHBOUR: 'it returns false'. Refute it at one input. -/
def tiePlaysWrong : ChangeSpec := { name := "tiePlays", fn := fun _ => fun
  | [d] => { results := [.lit (.bool false)], args := [d] }
  | _ => none }
def TiePlaysWrongFalsely : Prop := tiePlaysRow.holds Try.pinned (OpenSpec.ofChange tiePlaysWrong)

/-- 'carousellaw15.TieNobody': WHATEVER THE INPUT: true; the input reads as it did. -/
def tieNobodySpec : ChangeSpec := { name := "tieNobody", fn := fun _ => fun
  | [d1, d2, d3] => { results := [.lit (.bool true)], args := [d1, d2, d3] }
  | _ => none }
def tieNobodyRow : OpenClaim := { program := "ytjhgjbagmkiibaa", sum := "bdb7249e8df8077a0d4322b43fad7f02c3ae6bc87472da0c54a5f6a9527489f4", func := "carousel/carousellaw15.TieNobody", spec := "tieNobody", unfollowed := true, recurses := true, plainKeys := false, apart := false }
def TieNobodySaid : Prop := tieNobodyRow.holds Try.pinned (OpenSpec.ofChange tieNobodySpec)

/-- ITS FALSE NEIGHBOUR: 'it returns false'. Refute it at one input. -/
def tieNobodyWrong : ChangeSpec := { name := "tieNobody", fn := fun _ => fun
  | [d1, d2, d3] => { results := [.lit (.bool false)], args := [d1, d2, d3] }
  | _ => none }
def TieNobodyWrongFalsely : Prop := tieNobodyRow.holds Try.pinned (OpenSpec.ofChange tieNobodyWrong)

/- THE SECOND FORM. 'bulk': how many values and letters a reading holds, each counted each time it is reached (what is shared counts as often as it is met; a slice's spare places count too). A statement '..UptoSaid' is the law's where the arguments, and the package variables that the reading takes, are together of bulk at most 1048576: NARROWER than '..Said'. Prove '..Said' where nothing that the law and all that it calls make is longer than what came in: it says more and counts as full. Else prove '..UptoSaid'. A law counts once. -/
mutual
def uptoBulk {H : Type} : DataW H → Nat
  | .lit (.string bytes) => bytes.length + 1
  | .lit _ => 1
  | .nil => 1
  | .ptr d => uptoBulk d + 1
  | .slice elems spare => uptoBulkAll elems + uptoBulkAll spare + 1
  | .agg parts => uptoBulkAll parts + 1
  | .iface _ d => uptoBulk d + 1
  | .map entries => uptoBulkEntries entries + 1
  | .held _ => 1
def uptoBulkAll {H : Type} : List (DataW H) → Nat
  | [] => 0
  | d :: r => uptoBulk d + uptoBulkAll r
def uptoBulkEntries {H : Type} : List (Lit × DataW H) → Nat
  | [] => 0
  | x :: r => uptoBulkEntry x + uptoBulkEntries r
def uptoBulkEntry {H : Type} : Lit × DataW H → Nat
  | (.string bytes, d) => bytes.length + uptoBulk d + 1
  | (_, d) => uptoBulk d + 1
 end
def uptoSmall : (H : Type) → List (DataW H) → Bool := fun _ ds => decide (uptoBulkAll ds ≤ 1048576)
def OpenSpec.upto (s : _root_.Go.ChangeSpec) : _root_.Go.OpenSpec := { _root_.Go.OpenSpec.ofChange s with cond := some uptoSmall }

/-- 'carousellaw15.TieBoth', WHERE WHAT IT READS IS OF BULK AT MOST 1048576: true; the input reads as it did. -/
def tieBothUptoRow : OpenClaim := { program := "ytjhgjbagmkiibaa", sum := "bdb7249e8df8077a0d4322b43fad7f02c3ae6bc87472da0c54a5f6a9527489f4", func := "carousel/carousellaw15.TieBoth", spec := "tieBoth", unfollowed := true, recurses := true, plainKeys := false, apart := false, narrowed := true }
def TieBothUptoSaid : Prop := tieBothUptoRow.holds Try.pinned (OpenSpec.upto tieBothSpec)

/-- 'carousellaw15.TieLoads', WHERE WHAT IT READS IS OF BULK AT MOST 1048576: true; the input reads as it did. -/
def tieLoadsUptoRow : OpenClaim := { program := "ytjhgjbagmkiibaa", sum := "bdb7249e8df8077a0d4322b43fad7f02c3ae6bc87472da0c54a5f6a9527489f4", func := "carousel/carousellaw15.TieLoads", spec := "tieLoads", unfollowed := true, recurses := true, plainKeys := false, apart := false, narrowed := true }
def TieLoadsUptoSaid : Prop := tieLoadsUptoRow.holds Try.pinned (OpenSpec.upto tieLoadsSpec)

/-- 'carousellaw15.TiePlays', WHERE WHAT IT READS IS OF BULK AT MOST 1048576: true; the input reads as it did. -/
def tiePlaysUptoRow : OpenClaim := { program := "ytjhgjbagmkiibaa", sum := "bdb7249e8df8077a0d4322b43fad7f02c3ae6bc87472da0c54a5f6a9527489f4", func := "carousel/carousellaw15.TiePlays", spec := "tiePlays", unfollowed := true, recurses := true, plainKeys := false, apart := false, narrowed := true }
def TiePlaysUptoSaid : Prop := tiePlaysUptoRow.holds Try.pinned (OpenSpec.upto tiePlaysSpec)

/-- 'carousellaw15.TieNobody', WHERE WHAT IT READS IS OF BULK AT MOST 1048576: true; the input reads as it did. -/
def tieNobodyUptoRow : OpenClaim := { program := "ytjhgjbagmkiibaa", sum := "bdb7249e8df8077a0d4322b43fad7f02c3ae6bc87472da0c54a5f6a9527489f4", func := "carousel/carousellaw15.TieNobody", spec := "tieNobody", unfollowed := true, recurses := true, plainKeys := false, apart := false, narrowed := true }
def TieNobodyUptoSaid : Prop := tieNobodyUptoRow.holds Try.pinned (OpenSpec.upto tieNobodySpec)

end Rows
end Go.Proofs.Ytjhgjbagmkiibaa
