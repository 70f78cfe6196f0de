-- Written by wip/tool/myprint.py, a program of this repo that drives the kit's print over hand-written contracts; Lean checks it.
import Derived.Test.YtoecolllimgbgaaQ29
namespace Go.Proofs.Ytoecolllimgbgaa.StTtyStays
open Go.RowKit Go.Proofs.Ytoecolllimgbgaa.Q Go.Proofs.YtoecolllimgbgaaW.PrintWords Go.Proofs.YtoecolllimgbgaaW.PrintLast
def Ok47 (x : S47) : Prop := (Lit.int .i64 x.f0).wf = true ∧ (Lit.int .i64 x.f1).wf = true ∧ x.f2.size ≤ 140737488351232
/-- THE ONE PURE STATEMENT of jobshelllaw26_TtyStays. -/
def Pure : Prop := ∀ (l0 : List (S47)), l0.length ≤ maxLen → l0.length * 32 ≤ 140737488351232 → (∀ x ∈ l0, Ok47 x) → ∃ k, jobshelllaw26_TtyStays.f k l0 = some true
end Go.Proofs.Ytoecolllimgbgaa.StTtyStays
