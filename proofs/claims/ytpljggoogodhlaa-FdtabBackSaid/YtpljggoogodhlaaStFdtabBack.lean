-- Written by wip/tool/myprint.py, a program of this repo that drives the kit's print over hand-written contracts; Lean checks it.
import Derived.Test.YtpljggoogodhlaaQ23
namespace Go.Proofs.Ytpljggoogodhlaa.StFdtabBack
open Go.RowKit Go.Proofs.Ytpljggoogodhlaa.Q Go.Proofs.YtpljggoogodhlaaW.PrintWords Go.Proofs.YtpljggoogodhlaaW.PrintLast
def Ok24 (x : S24) : Prop := (Lit.int .i64 x.f0).wf = true ∧ (Lit.int .i64 x.f1).wf = true ∧ (Lit.int .i64 x.f2).wf = true ∧ (Lit.int .i64 x.f3).wf = true ∧ (Lit.int .i64 x.f4).wf = true ∧ x.f5.size ≤ 140737488351232
/-- THE ONE PURE STATEMENT of jobshelllaw23_FdtabBack. -/
def Pure : Prop := ∀ (l0 : List (S24)) (a1_0 : Int) (a1_1 : Int) (a1_2 : Int) (a1_3 : Int) (a1_4 : Int) (a1_5 : ByteArray) (a2 : Int), l0.length ≤ maxLen → l0.length * 56 ≤ 140737488351232 → (∀ x ∈ l0, Ok24 x) → (Lit.int .i64 a1_0).wf = true → (Lit.int .i64 a1_1).wf = true → (Lit.int .i64 a1_2).wf = true → (Lit.int .i64 a1_3).wf = true → (Lit.int .i64 a1_4).wf = true → a1_5.size ≤ 140737488351232 → (Lit.int .i64 a2).wf = true → ∃ k, jobshelllaw23_FdtabBack.f k l0 a1_0 a1_1 a1_2 a1_3 a1_4 a1_5 a2 = some true
end Go.Proofs.Ytpljggoogodhlaa.StFdtabBack
