-- Written by wip/tool/myprint.py, a program of this repo that drives the kit's print over hand-written contracts; Lean checks it.
import Derived.Test.YtpljggoogodhlaaQ22
namespace Go.Proofs.Ytpljggoogodhlaa.StFdtabCounts
open Go.RowKit Go.Proofs.Ytpljggoogodhlaa.Q Go.Proofs.YtpljggoogodhlaaW.PrintWords Go.Proofs.YtpljggoogodhlaaW.PrintLast
def Ok24 (x : S24) : Prop := (Lit.int .i64 x.f0).wf = true ∧ (Lit.int .i64 x.f1).wf = true ∧ (Lit.int .i64 x.f2).wf = true ∧ (Lit.int .i64 x.f3).wf = true ∧ (Lit.int .i64 x.f4).wf = true ∧ x.f5.size ≤ 140737488351232
/-- THE ONE PURE STATEMENT of jobshelllaw23_FdtabCounts. -/
def Pure : Prop := ∀ (l0 : List (S24)) (a1 : Int), l0.length ≤ maxLen → l0.length * 56 ≤ 140737488351232 → (∀ x ∈ l0, Ok24 x) → (Lit.int .i64 a1).wf = true → ∃ k, jobshelllaw23_FdtabCounts.f k l0 a1 = some true
end Go.Proofs.Ytpljggoogodhlaa.StFdtabCounts
