-- Written by wip/tool/myprint.py, a program of this repo that drives the kit's print over hand-written contracts; Lean checks it.
import Derived.Test.YtpljggoogodhlaaQ19
namespace Go.Proofs.Ytpljggoogodhlaa.StFdtabLooks
open Go.RowKit Go.Proofs.Ytpljggoogodhlaa.Q Go.Proofs.YtpljggoogodhlaaW.PrintWords Go.Proofs.YtpljggoogodhlaaW.PrintLast
def Ok36 (x : S36) : Prop := (Lit.int .i64 x.f0).wf = true ∧ (Lit.int .i64 x.f1).wf = true
/-- THE ONE PURE STATEMENT of jobshelllaw23_FdtabLooks. -/
def Pure : Prop := ∀ (l0 : List (S36)) (a1 : Int), l0.length ≤ maxLen → l0.length * 24 ≤ 140737488351232 → (∀ x ∈ l0, Ok36 x) → (Lit.int .i64 a1).wf = true → ∃ k, jobshelllaw23_FdtabLooks.f k l0 a1 = some true
end Go.Proofs.Ytpljggoogodhlaa.StFdtabLooks
