/- Lemmas. -/
import Derived.Test.YtbkdpmkjcoaapaaR28SA
namespace Go.Proofs.Ytbkdpmkjcoaapaa
open Go.Lg
set_option linter.unusedVariables false
set_option maxRecDepth 100000
set_option maxHeartbeats 8000000
set_option linter.unusedSimpArgs false
abbrev kidC : List C := [.sc (.string ⟨#[97]⟩), vi 1, vi 1, vi 0, .sc (.complex .f64 0 0), .sc (.string ⟨#[]⟩), vi 0, vi 0, nilC, .sc (.string ⟨#[98]⟩), vi 1, vi 1, vi 0, .sc (.complex .f64 0 0), .sc (.string ⟨#[]⟩), vi 0, vi 0, nilC, .sc (.string ⟨#[99]⟩), vi 1, vi 1, vi 0, .sc (.complex .f64 0 0), .sc (.string ⟨#[]⟩), vi 0, vi 0, nilC]
abbrev kids : C := .sl false false false kidC 3
abbrev oops : List C := [vi 5, vi 0, .sc (.complex .f64 0 0), .sc (.string ⟨#[111, 111, 112, 115]⟩), vi 0, vi 0, nilC]
theorem fn8 : PureC pg an 8 [] [.one (vb true)] := pure_of 600 (by kernel_rfl)
theorem fn5 : PureC pg an 5 [.one (vi 1)] [.agg [vi 1, vi 1, vi 5, kids]] := pure_of 200 (by kernel_rfl)
theorem fn10 : PureC pg an 10 [.one (.sc (.string ⟨#[111, 111, 112, 115]⟩))] [.agg oops] := pure_of 200 (by kernel_rfl)
theorem fn21 : PureC pg an 21 [.agg oops] [.one (vi 0)] := pure_of 200 (by kernel_rfl)
theorem fn17 : PureC pg an 17 [.one kids] [.one kids] := pure_of 200 (by kernel_rfl)
end Go.Proofs.Ytbkdpmkjcoaapaa
